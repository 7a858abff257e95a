/-
  An argument that is a slice of bytes, opened as a list of bytes.
-/
import Derived.Test.YtoafmhbgbofgoaaGreatDoorBase
import Derived.ProofKit
import Derived.OpenShut
namespace Go.Own
open Go.ChangeShapes Go.WideShapes Go.ChangeAt Go.RowKit
theorem byte_of_wf {z : Int} (h : (Lit.int .u8 z).wf = true) : 0 ≤ z ∧ z ≤ 255 := by
  have := bounds_u8 h
  omega
/-- A slice of bytes that came in. -/
theorem rd_of_trod {H : Type} {enc : TypeId × Value → H} {P : Program} {W : World} {base : Nat} {spare : Nat → Bool} {held : Bool} {t e : TypeId} {a : Option Addr} {len cap : Nat} {d : DataW H} {p : List MemPlace}
    (ht : P.underlying t = some (.slice e)) (he : P.underlying e = some (.int .u8)) (hc : P.cellsOf e = 1) (h : DataW.Trod enc P W base spare held t (.slice a len cap) d p) :
    ∃ l, Rd W W.heap.size a len l ∧ len ≤ cap := by
  obtain ⟨fuel, hf⟩ := h
  rcases open_ints ht he hc hf with ⟨hcs, _⟩ | ⟨x, l, c, zs, hcs, _, hl, hm, hz, _, hcell, hwz⟩
  · simp [Value.cells] at hcs
    obtain ⟨rfl, rfl, rfl⟩ := hcs
    exact ⟨[], ⟨rfl, fun h => absurd h (by omega)⟩, Nat.le_refl _⟩
  · simp [Value.cells] at hcs
    obtain ⟨rfl, rfl, rfl⟩ := hcs
    have hzl : len ≤ zs.length := by rw [hz]; split <;> omega
    refine ⟨(zs.take len).map fun z => UInt8.ofNat z.toNat, ⟨by rw [List.length_map, List.length_take]; omega, fun hn => ⟨x, rfl, ?_, fun j hj => ?_⟩⟩, hl⟩
    · have h0 := hcell 0 (by omega)
      have := World.block_lt_of_cell? W _ h0
      rwa [add_block] at this
    · rw [hcell j (by omega)]
      have hjz : j < zs.length := by omega
      have hw := byte_of_wf (hwz zs[j] (List.getElem_mem hjz))
      have e1 : ((zs.take len).map fun z => UInt8.ofNat z.toNat).getD j 0 = UInt8.ofNat (zs[j]).toNat := by
        simp [List.getD, hj, hjz]
      rw [e1, UInt8.toNat_ofNat_of_lt' (by simp; omega)]
      simp [List.getD, hjz]
      omega
end Go.Own
