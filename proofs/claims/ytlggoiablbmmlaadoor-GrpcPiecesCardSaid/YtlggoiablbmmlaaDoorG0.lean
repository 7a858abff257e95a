/-
  Contracts: parleyref.Bytes, SameBytes; grpc.OfHTTP, OfReset, NewReader, Left.
-/
import Derived.Test.YtlggoiablbmmlaaDoorProg
import Derived.Test.YtlggoiablbmmlaaDoorMid
import Derived.WalkKit
import Derived.Lib.Hide
import Derived.LoopTactic
import Derived.Outline
namespace Go.Proofs.YtlggoiablbmmlaaDoor
open Go.RowKit Go.Own

theorem byteInfo : (Tryd.prog.info? 5).map (fun i => (i.zero, i.size, i.bytes)) = some (some (.int .u8 0), 1, 1) := by kernel_rfl
theorem byteP : ByteP Tryd.prog 25 5 := ⟨Tryd.underlying25, info_parts byteInfo⟩

set_option maxHeartbeats 400000 in
set_option maxRecDepth 100000 in
theorem bytes_any (A : Option Addr) (n c : Nat) (l : List UInt8) (w : World) (B : Nat) (hr : Rd w B A n l) (hB : B ≤ w.heap.size) (hn : n ≤ 1000000000000) :
    Calls Tryd.prog 13 #[.slice A n c] w fun e w' => e = .returned (.slice (some ⟨w.heap.size, 0, none⟩) n n) ∧
      Ow w' w.heap.size 5 (.slice (some ⟨w.heap.size, 0, none⟩) n n) n l ∧ Below w.heap.size w w' := by
  have HR := Lib.hid hr; clear hr
  go_enter Tryd.func13, Tryd.ntmps13
  go_wp2_with (first
    | (at_make
       refine wpList_mk _ byteP rfl _ _ rfl w.heap.size .i64 .i64 _ n rfl rfl ?_ ?_ (Nat.le_refl _) ?_
       · rfl
       · omega
       intro w1 ho1 hg1
       have hb1 : Below w.heap.size w w1 := (Below.refl _ _).grown hg1 (Nat.le_refl _) (by simp)
       have HR1 := Lib.hid ((HR.out.more hB).below hb1))
    | (at_builtin
       refine wpList_app_fits _ byteP rfl (.tmp 5) (.tmp 6) rfl w.heap.size w.heap.size 0 n [] rfl ho1 w.heap.size A n c l rfl HR1.out ?_ ?_
       · omega
       intro w2 ho2 hg2
       have hb2 : Below w.heap.size w w2 := hb1.grown hg2 hb1.size (by simp)))
  go_ret
  simp only [Nat.zero_add, List.nil_append] at ho2 ⊢
  exact ⟨rfl, ho2, hb2⟩

set_option maxHeartbeats 400000 in
set_option maxRecDepth 100000 in
theorem sameBytes_any (A A2 : Option Addr) (n n2 c c2 : Nat) (l l2 : List UInt8) (w : World) (B B2 : Nat) (hr : Rd w B A n l) (hr2 : Rd w B2 A2 n2 l2) :
    Calls Tryd.prog 14 #[.slice A n c, .slice A2 n2 c2] w fun e w' => e = .returned (.bool (decide (l = l2))) ∧ w = w' := by
  have h1 := run_str (P := Tryd.prog) (c := c) 25 9 5 Tryd.underlying25 Tryd.underlying5 Tryd.underlying9 hr
  have h2 := run_str (P := Tryd.prog) (c := c2) 25 9 5 Tryd.underlying25 Tryd.underlying5 Tryd.underlying9 hr2
  clear hr hr2
  go_enter Tryd.func14, Tryd.ntmps14
  go_wp2
  go_ret
  refine ⟨?_, rfl⟩
  simp
  rw [Bool.eq_iff_iff]
  simp


set_option maxHeartbeats 1000000 in
theorem ofHTTP_any (n : Int) (w : World) : Calls Tryd.prog 15 #[.int .i64 n] w fun e w' => (∃ k : Int, e = .returned (.int .i64 k) ∧ 0 < k ∧ k ≤ 16) ∧ w = w' := by
  go_enter Tryd.func15, Tryd.ntmps15
  go_wp2
  all_goals
    go_ret
    exact ⟨⟨_, rfl, by decide, by decide⟩, rfl⟩
theorem ofHTTP_404 (w : World) : Calls Tryd.prog 15 #[.int .i64 404] w fun e w' => e = .returned (.int .i64 12) ∧ w = w' := by
  go_enter Tryd.func15, Tryd.ntmps15
  go_wp2
  go_ret
  exact ⟨rfl, rfl⟩
set_option maxHeartbeats 1000000 in
theorem ofReset_any (n : Int) (w : World) : Calls Tryd.prog 16 #[.int .i64 n] w fun e w' => (∃ k : Int, e = .returned (.int .i64 k) ∧ 0 < k ∧ k ≤ 16) ∧ w = w' := by
  go_enter Tryd.func16, Tryd.ntmps16
  go_wp2
  all_goals
    go_ret
    exact ⟨⟨_, rfl, by decide, by decide⟩, rfl⟩
set_option maxHeartbeats 1000000 in
theorem newReader_any (n : Int) (w : World) : Calls Tryd.prog 9 #[.int .i64 n] w fun e w' => e = .returned (.pointer (some ⟨w.heap.size, 0, none⟩)) ∧ w' = w.alloc (.cells #[.int .i64 n, .slice none 0 0, .bool false] 49) := by
  go_enter Tryd.func9, Tryd.ntmps9
  go_wp2
  go_ret
  exact ⟨rfl, rfl⟩
end Go.Proofs.YtlggoiablbmmlaaDoor
