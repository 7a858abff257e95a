/-
  What the walks of this chapter read of package-level variables.
-/
import Derived.Test.YtoafmhbgbofgoaaGreatDoorBase
import Derived.Test.YtoafmhbgbofgoaaGreatDoorShelf
namespace Go.Proofs.YtoafmhbgbofgoaaGreatDoor.Gp
open Go.RowKit Go.Own

/-- What the walks read of package-level variables. -/
structure EnvG (w : World) (e1 e2 e3 e4 : Addr) : Prop where
  gone : w.cell? ⟨1, 0, none⟩ = some (.iface 164 (.pointer (some e1)))
  frame : w.cell? ⟨5, 0, none⟩ = some (.iface 164 (.pointer (some e2)))
  long : w.cell? ⟨0, 0, none⟩ = some (.iface 164 (.pointer (some e3)))
  value : w.cell? ⟨2, 0, none⟩ = some (.iface 164 (.pointer (some e4)))
  syn : ∃ te pe, w.cell? ⟨6, 0, none⟩ = some (.iface te pe)
  top : ∃ m, w.cell? ⟨8, 0, none⟩ = some (.int .i64 m)
  tab : Lib.TabIs Tryz.prog w "internal/strconv.uint64pow10" .u64 Lib.pow10Tab
  room : 12 ≤ w.heap.size
theorem EnvG.kept {w w' : World} {e1 e2 e3 e4 : Addr} (he : EnvG w e1 e2 e3 e4) (hk : ∀ i, i < 12 → w'.heap[i]? = w.heap[i]?) (hz : 12 ≤ w'.heap.size) : EnvG w' e1 e2 e3 e4 := by
  have hc : ∀ i, i < 12 → ∀ o, w'.cell? ⟨i, o, none⟩ = w.cell? ⟨i, o, none⟩ := fun i hi o => World.cell?_of_block (hk i hi)
  obtain ⟨te, pe, hs⟩ := he.syn
  obtain ⟨m, hm⟩ := he.top
  refine ⟨(hc _ (by decide) _).trans he.gone, (hc _ (by decide) _).trans he.frame, (hc _ (by decide) _).trans he.long, (hc _ (by decide) _).trans he.value, ⟨te, pe, (hc _ (by decide) _).trans hs⟩, ⟨m, (hc _ (by decide) _).trans hm⟩, ?_, hz⟩
  have ht := he.tab
  unfold Lib.TabIs World.var? at ht ⊢
  rw [show Tryz.prog.globalNamed "internal/strconv.uint64pow10" = some 9 by kernel_rfl] at ht ⊢
  simp only [Option.bind_some] at ht ⊢
  rw [hk _ (by decide)]
  exact ht
theorem EnvG.below {w w' : World} {B : Nat} {e1 e2 e3 e4 : Addr} (he : EnvG w e1 e2 e3 e4) (hb : Below B w w') (hB : 12 ≤ B) : EnvG w' e1 e2 e3 e4 :=
  he.kept (fun i hi => hb.block i (by omega)) (Nat.le_trans he.room hb.size)

theorem EnvG.drewN {w : World} {e1 e2 e3 e4 : Addr} (he : EnvG w e1 e2 e3 e4) (k : Nat) : EnvG (w.drewN k) e1 e2 e3 e4 := he.kept (fun _ _ => rfl) he.room
end Go.Proofs.YtoafmhbgbofgoaaGreatDoor.Gp
