/-
  What a round of a loop over a board's services keeps: whatever is cells, but two boxes and the row that the second box holds.
-/
import Derived.Test.YtnffhmkcegiacaaDoorKg
import Derived.RangeFuncNested
import Derived.RangeFuncBound
import Derived.RangeFuncCalls
import Derived.RangeFuncLeaves
namespace Go.Own
open Go Go.RowKit
structure Kpt (Bi Bx : Nat) (W W' : World) : Prop where
  size : W.heap.size ≤ W'.heap.size
  own : ∀ v', W'.cell? ⟨Bx, 0, none⟩ = some v' → ∀ r, v'.ownBlock = some r → (∃ v, W.cell? ⟨Bx, 0, none⟩ = some v ∧ v.ownBlock = some r) ∨ W.heap.size ≤ r
  same : ∀ k cur e fr, W.heap[k]? = some (.cells cur e fr) → k ≠ Bi → k ≠ Bx → (∀ v, W.cell? ⟨Bx, 0, none⟩ = some v → v.ownBlock ≠ some k) → W'.heap[k]? = some (.cells cur e fr)
section
variable {Bi Bx : Nat} {A B C : World}
theorem Kpt.refl (W : World) : Kpt Bi Bx W W := ⟨Nat.le_refl _, fun v' h r hr => .inl ⟨v', h, hr⟩, fun _ _ _ _ h _ _ _ => h⟩
theorem Kpt.trans (h : Kpt Bi Bx A B) (k : Kpt Bi Bx B C) : Kpt Bi Bx A C := by
  refine ⟨Nat.le_trans h.size k.size, fun v'' h2 r hr => ?_, fun i cur e fr hi n1 n2 n3 => ?_⟩
  · rcases k.own v'' h2 r hr with ⟨v, hv, hvr⟩ | hge
    · exact h.own v hv r hvr
    · exact .inr (Nat.le_trans h.size hge)
  · have hb := h.same i cur e fr hi n1 n2 n3
    refine k.same i cur e fr hb n1 n2 fun v hv hvi => ?_
    rcases h.own v hv i hvi with ⟨v0, h0, h1⟩ | hge
    · exact n3 v0 h0 h1
    · have := (Array.getElem?_eq_some_iff.1 hi).1
      omega
theorem Kpt.put {n : Nat} (hx : Bx < n) (W : World) (l : Nat) (o o' : Obj) (hl : n ≤ l) (ho : W.heap[l]? = some o) (hc : o.isCells = false) : Kpt Bi Bx W (W.putObj l o') := by
  have hne : ∀ k, k ≠ l → (W.putObj l o').heap[k]? = W.heap[k]? := fun k hk => by
    show (W.heap.setIfInBounds l o')[k]? = _
    rw [Array.getElem?_setIfInBounds_ne (Ne.symm hk)]
  refine ⟨by show _ ≤ (W.heap.setIfInBounds l o').size; rw [Array.size_setIfInBounds]; exact Nat.le_refl _, fun v' h r hr => ?_, fun k cur e fr hk _ _ _ => ?_⟩
  · refine .inl ⟨v', ?_, hr⟩
    unfold World.cell? at h ⊢
    rw [hne Bx (by omega)] at h
    exact h
  · rw [hne k (fun e => by subst e; rw [ho] at hk; cases hk; cases hc)]
    exact hk
/-- What lies below the round's own memory stays, and so does the second box. -/
theorem Kpt.of_below (h : Below A.heap.size A B) (hx : Bx < A.heap.size) : Kpt Bi Bx A B := by
  refine ⟨h.size, fun v' hv r hr => .inl ⟨v', ?_, hr⟩, fun k cur e fr hk _ _ _ => ?_⟩
  · unfold World.cell? at hv ⊢
    rw [h.block Bx hx] at hv
    exact hv
  · rw [h.block k (Array.getElem?_eq_some_iff.1 hk).1]; exact hk
/-- A store into the first box. -/
theorem Kpt.set1 (v : Value) (hne : Bi ≠ Bx) : Kpt Bi Bx A (A.setCell ⟨Bi, 0, none⟩ v) := by
  refine ⟨by rw [setCell_size]; exact Nat.le_refl _, fun v' hv r hr => .inl ⟨v', ?_, hr⟩, fun k cur e fr hk h1 _ _ => ?_⟩
  · unfold World.cell? at hv ⊢
    rw [setCell_other (by exact hne)] at hv
    exact hv
  · rw [setCell_other (by exact Ne.symm h1)]; exact hk
/-- A block that a round keeps. -/
theorem Kpt.blk {k : Nat} {t : TypeId} {cs : Array Value} (h : Kpt Bi Bx A B) (hb : Blk A k t cs) (h1 : k ≠ Bi) (h2 : k ≠ Bx) (h3 : ∀ v, A.cell? ⟨Bx, 0, none⟩ = some v → v.ownBlock ≠ some k) : Blk B k t cs :=
  h.same k cs t (0, 0) hb h1 h2 h3
end
end Go.Own
