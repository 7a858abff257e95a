/-
  sync.Once where one goroutine runs: not yet done, the lock free. (The numbers under which this dump holds sync.Mutex's functions and types.)
-/
import Derived.Test.YtoafmhbgbofgoaaGreatDoorNb
import Derived.Conc.RwLib
import Derived.Conc.MuData
import Derived.Conc.MuLone
import Derived.KernelRfl
import Derived.Defers
import Derived.Laws.LoneSync
import Derived.RegionCalls
namespace Go.Proofs
abbrev Tryz.muLink : Go.Conc.Locks.MuLink := { lock := 129, unlock := 130, ilock := 136, iunlock := 137, lockSlow := 146, unlockSlow := 149, disable := 142, enable := 144, acquire := 145, relMerge := 147, cas32 := 143, add32 := 148, tMutex := 145, tIMutex := 143, tPMutex := 192, tPIMutex := 208, tPI32 := 210, tUP := 132, tNoCopy := 138, tU32 := 116 }
theorem Tryz.muLib : Go.Conc.Locks.MuLib Tryz.prog Tryz.muLink :=
  ⟨Tryz.func129, Tryz.func130, Tryz.func136, Tryz.func137, Tryz.func142, Tryz.func144, Tryz.func145, Tryz.func147, Tryz.func143, Tryz.func148, Tryz.underlying143, Tryz.runUnderlying143, Tryz.sizeOf143, Tryz.isAgg143, Tryz.zeroValue143, Tryz.underlying145, Tryz.runUnderlying145, Tryz.sizeOf145, Tryz.isAgg145, Tryz.zeroValue145, Tryz.underlying192, Tryz.runUnderlying192, Tryz.sizeOf192, Tryz.isAgg192, Tryz.zeroValue192, Tryz.underlying208, Tryz.runUnderlying208, Tryz.sizeOf208, Tryz.isAgg208, Tryz.zeroValue208, Tryz.underlying210, Tryz.runUnderlying210, Tryz.sizeOf210, Tryz.isAgg210, Tryz.zeroValue210, Tryz.underlying132, Tryz.runUnderlying132, Tryz.sizeOf132, Tryz.isAgg132, Tryz.zeroValue132, Tryz.underlying138, Tryz.runUnderlying138, Tryz.sizeOf138, Tryz.isAgg138, Tryz.zeroValue138, Tryz.underlying21, Tryz.runUnderlying21, Tryz.sizeOf21, Tryz.isAgg21, Tryz.zeroValue21, (by kernel_rfl)⟩
end Go.Proofs
namespace Go.Proofs.YtoafmhbgbofgoaaGreatDoor
open Go.RowKit Go.Own Go.MuLone
attribute [local go_sem] Oper.semAt_some
/-- '(*sync/atomic.Bool).Store(true)', entered as a deferred call: the cell holds 1. -/
theorem store_deferred (a : Addr) (x : Value) (u : FrameMode) (w : World) (hc : w.cell? a = some x) (hz : w.frozen? a = false) :
    CallsD Tryz.prog 131 #[.pointer (some a), .bool true] u w fun e u' w' => u' = u ∧ (e = .returned (.tuple #[]) ∧ w' = w.drew.setCell a (.int .u32 1)) := by
  have hc' : w.drew.cell? a = some x := by go_simp
  have hz' : w.drew.frozen? a = false := by go_simp
  have hst := run_call_store (P := Tryz.prog) Tryz.func138 (by kernel_rfl) (by kernel_rfl) (by kernel_rfl) (by kernel_rfl) (k := .u32) (y := 1) hc' hz'
  go_enter_d Tryz.func131, Tryz.ntmps131
  go_wp2
  go_region_calls
  all_goals (go_end0; exact ⟨rfl, rfl⟩)
def onceCells (d l : Int) (r o : Value) : Array Value := #[.int .u32 d, .int .i32 l, .int .u32 0, r, o]
/-- What the function that is done once leaves. -/
def Did (rb : Nat) (R : World → Value → Value → Prop) (e : Ending) (w' : World) : Prop := e = .returned (.tuple #[]) ∧ ∃ r1 o1, Blk w' rb 151 (onceCells 0 1 r1 o1) ∧ R w' r1 o1
def DidAll (rb : Nat) (R : World → Value → Value → Prop) (e : Ending) (w' : World) : Prop := e = .returned (.tuple #[]) ∧ ∃ W r1 o1, Blk W rb 151 (onceCells 0 1 r1 o1) ∧ R W r1 o1 ∧ w' = (W.drew.setCell ⟨rb, 0, none⟩ (.int .u32 1)).setCell ⟨rb, 1, none⟩ (.int .i32 0)
set_option maxHeartbeats 4000000 in
set_option maxRecDepth 100000 in
theorem slow_any (rb : Nat) (r o : Value) (R : World → Value → Value → Prop) (w : World) (hB : Blk w rb 151 (onceCells 0 0 r o))
    (hf : Calls Tryz.prog 104 #[.pointer (some ⟨rb, 0, none⟩)] (w.setCell ⟨rb, 1, none⟩ (.int .i32 1)) (Did rb R)) :
    Calls Tryz.prog 120 #[.pointer (some ⟨rb, 0, none⟩), .func (.func 104) #[.pointer (some ⟨rb, 0, none⟩)] #[]] w (DidAll rb R) := by
  have hB1 : Blk (w.setCell ⟨rb, 1, none⟩ (.int .i32 1)) rb 151 (onceCells 0 1 r o) := hB.put 1 _
  have hl := run_call_load (P := Tryz.prog) Tryz.func128 (by kernel_rfl) (by kernel_rfl) (by kernel_rfl) .u32 (by kernel_rfl) (w := w.setCell ⟨rb, 1, none⟩ (.int .i32 1)) (a := ⟨rb, 0, none⟩) (x := 0) (hB1.cell 0)
  have hnot : ∀ (x : Bool) (w : World), (Op.unary .not (.bool x)).run Tryz.prog w = .ok (.bool (!x)) w := fun _ _ => rfl
  have h1 : w.cell? ⟨rb, 1, none⟩ = some (.int .i32 0) := hB.cell 1
  have f1 := hB.frozen 1
  have HF := Lib.hid hf
  clear hf
  go_enter_defers Tryz.func120, Tryz.ntmps120
  go_wp2_with (first
    | (go_at_call 129; refine (lock_free Tryz.muLib ⟨rb, 1, none⟩ _ h1 f1).mono ?_; rintro e w' ⟨rfl, rfl⟩)
    | (go_at_call 119; go_in)
    | (go_at_call 104; refine HF.out.mono ?_; rintro e W ⟨rfl, r1, o1, hb1, hr1⟩))
  refine leaves_cons (f := 131) (args := #[.pointer (some ⟨rb, 0, none⟩), .bool true]) (by simp) (by simp [go_sem]) ?_
  refine (store_deferred ⟨rb, 0, none⟩ (.int .u32 0) .returning _ (hb1.cell 0) (hb1.frozen 0)).mono ?_
  rintro e u' w'' ⟨rfl, rfl, rfl⟩
  have hb2 : Blk (W.drew.setCell ⟨rb, 0, none⟩ (.int .u32 1)) rb 151 (onceCells 1 1 r1 o1) := Blk.put (w := W.drew) hb1 0 _
  refine leaves_cons (f := 130) (args := #[.pointer (some ⟨rb, 1, none⟩)]) (by simp [settle]) (by simp [go_sem]) ?_
  refine (unlock_deferred Tryz.muLib ⟨rb, 1, none⟩ _ _ (hb2.cell 1) (hb2.frozen 1)).mono ?_
  rintro e u' w'' ⟨rfl, rfl, rfl⟩
  exact ⟨_, results_none rfl _ _ _, rfl, W, r1, o1, hb1, hr1, rfl⟩
set_option maxHeartbeats 4000000 in
set_option maxRecDepth 100000 in
theorem do_any (rb : Nat) (r o : Value) (R : World → Value → Value → Prop) (w : World) (hB : Blk w rb 151 (onceCells 0 0 r o))
    (hf : Calls Tryz.prog 104 #[.pointer (some ⟨rb, 0, none⟩)] (w.setCell ⟨rb, 1, none⟩ (.int .i32 1)) (Did rb R)) :
    Calls Tryz.prog 103 #[.pointer (some ⟨rb, 0, none⟩), .func (.func 104) #[.pointer (some ⟨rb, 0, none⟩)] #[]] w (DidAll rb R) := by
  have HS := Lib.hid (slow_any rb r o R w hB hf)
  have hl := run_call_load (P := Tryz.prog) Tryz.func128 (by kernel_rfl) (by kernel_rfl) (by kernel_rfl) .u32 (by kernel_rfl) (w := w) (a := ⟨rb, 0, none⟩) (x := 0) (hB.cell 0)
  have hnot : ∀ (x : Bool) (w : World), (Op.unary .not (.bool x)).run Tryz.prog w = .ok (.bool (!x)) w := fun _ _ => rfl
  clear hB hf
  go_enter Tryz.func103, Tryz.ntmps103
  go_wp2_with (first
    | (go_at_call 119; go_in)
    | (go_at_call 120; refine HS.out.mono ?_; rintro e W ⟨rfl, hd⟩; have HD := Lib.hid hd; clear hd))
  go_end0
  exact ⟨rfl, HD.out⟩
end Go.Proofs.YtoafmhbgbofgoaaGreatDoor
