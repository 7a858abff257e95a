/-
  The numbers under which this dump holds sync.Mutex's functions and types.
-/
import Derived.Test.YtnffhmkcegiacaaDoorProg
import Derived.Conc.RwLib
import Derived.Conc.MuData
import Derived.KernelRfl
namespace Go.Proofs
abbrev Tryd.muLink : Go.Conc.Locks.MuLink := { lock := 16, unlock := 17, ilock := 23, iunlock := 24, lockSlow := 31, unlockSlow := 34, disable := 27, enable := 29, acquire := 30, relMerge := 32, cas32 := 28, add32 := 33, tMutex := 53, tIMutex := 51, tPMutex := 65, tPIMutex := 69, tPI32 := 71, tUP := 73, tNoCopy := 48, tU32 := 49 }
theorem Tryd.muLib : Go.Conc.Locks.MuLib Tryd.prog Tryd.muLink :=
  ⟨Tryd.func16, Tryd.func17, Tryd.func23, Tryd.func24, Tryd.func27, Tryd.func29, Tryd.func30, Tryd.func32, Tryd.func28, Tryd.func33, Tryd.underlying51, Tryd.runUnderlying51, Tryd.sizeOf51, Tryd.isAgg51, Tryd.zeroValue51, Tryd.underlying53, Tryd.runUnderlying53, Tryd.sizeOf53, Tryd.isAgg53, Tryd.zeroValue53, Tryd.underlying65, Tryd.runUnderlying65, Tryd.sizeOf65, Tryd.isAgg65, Tryd.zeroValue65, Tryd.underlying69, Tryd.runUnderlying69, Tryd.sizeOf69, Tryd.isAgg69, Tryd.zeroValue69, Tryd.underlying71, Tryd.runUnderlying71, Tryd.sizeOf71, Tryd.isAgg71, Tryd.zeroValue71, Tryd.underlying73, Tryd.runUnderlying73, Tryd.sizeOf73, Tryd.isAgg73, Tryd.zeroValue73, Tryd.underlying48, Tryd.runUnderlying48, Tryd.sizeOf48, Tryd.isAgg48, Tryd.zeroValue48, Tryd.underlying21, Tryd.runUnderlying21, Tryd.sizeOf21, Tryd.isAgg21, Tryd.zeroValue21, (by kernel_rfl)⟩
end Go.Proofs
