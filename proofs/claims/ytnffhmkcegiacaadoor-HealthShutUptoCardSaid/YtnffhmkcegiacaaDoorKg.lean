/-
  Generic: a lock that is taken and let go leaves what lay.
-/
import Derived.Test.YtnffhmkcegiacaaDoorBase
namespace Go.Own
open Go Go.RowKit
section
variable {w w2 : World} {g : Nat} {t : TypeId} {cs : Array Value}
theorem Blk.set (h : Blk w g t cs) (i : Nat) (v : Value) : Blk (w.setCell ⟨g, i, none⟩ v) g t (cs.setIfInBounds i v) := by
  unfold Blk at h ⊢
  show (w.heap.modify g _)[g]? = _
  rw [Array.getElem?_modify, if_pos rfl, h]
  rfl
theorem setCell_other {a : Addr} {v : Value} {k : Nat} (h : a.block ≠ k) : (w.setCell a v).heap[k]? = w.heap[k]? := by
  show (w.heap.modify a.block _)[k]? = _
  rw [Array.getElem?_modify, if_neg h]
theorem Blk.other (h : Blk w g t cs) {a : Addr} {v : Value} (hne : a.block ≠ g) : Blk (w.setCell a v) g t cs := by
  unfold Blk at h ⊢
  rw [setCell_other hne, h]
theorem setCell_size (a : Addr) (v : Value) : (w.setCell a v).heap.size = w.heap.size := by
  show (w.heap.modify a.block _).size = _
  exact Array.size_modify
/-- Taken, new memory used, let go: what lay lies as it lay. -/
theorem below_lock {B i : Nat} {u v : Value} (h : Blk w g t cs) (hc : cs[i]? = some u) (hb : Below B (w.setCell ⟨g, i, none⟩ v) w2) (hg : g < B) : Below B w (w2.setCell ⟨g, i, none⟩ u) := by
  have hs := h.set i v
  refine ⟨hb.os, hb.tape, hb.output, ?_, fun k hk => ?_⟩
  · rw [setCell_size]
    have := hb.size
    rwa [setCell_size] at this
  · by_cases e : g = k
    · subst e
      have h2 : Blk w2 g t (cs.setIfInBounds i v) := by
        unfold Blk at hs ⊢
        rw [hb.block g hg, hs]
      have h3 := h2.set i u
      unfold Blk at h3 h
      rw [h3, h]
      congr 2
      obtain ⟨hi, he⟩ := Array.getElem?_eq_some_iff.1 hc
      apply Array.ext
      · simp
      · intro j h1 h4
        by_cases ej : i = j
        · subst ej
          simp [he]
        · rw [Array.getElem_setIfInBounds_ne (by simpa using h4) ej, Array.getElem_setIfInBounds_ne h4 ej]
    · rw [setCell_other (by exact e), hb.block k hk, setCell_other (by exact e)]
/-- The same, for one row besides. -/
theorem grown_lock {row : Option Nat} {i : Nat} {u v : Value} (h : Blk w g t cs) (hc : cs[i]? = some u) (hb : (w.setCell ⟨g, i, none⟩ v).grownBy w2 row) (hne : some g ≠ row) : w.grownBy (w2.setCell ⟨g, i, none⟩ u) row := by
  have hs := h.set i v
  refine ⟨hb.os, hb.tape, hb.output, ?_, fun k hk hn => ?_⟩
  · rw [setCell_size]
    have := hb.size
    rwa [setCell_size] at this
  · by_cases e : g = k
    · subst e
      have h2 : Blk w2 g t (cs.setIfInBounds i v) := by
        unfold Blk at hs ⊢
        rw [hb.block g (by rw [setCell_size]; exact hk) hne, hs]
      have h3 := h2.set i u
      unfold Blk at h3 h
      rw [h3, h]
      congr 2
      obtain ⟨hi, he⟩ := Array.getElem?_eq_some_iff.1 hc
      apply Array.ext
      · simp
      · intro j h1 h4
        by_cases ej : i = j
        · subst ej
          simp [he]
        · rw [Array.getElem_setIfInBounds_ne (by simpa using h4) ej, Array.getElem_setIfInBounds_ne h4 ej]
    · rw [setCell_other (by exact e), hb.block k (by rw [setCell_size]; exact hk) hn, setCell_other (by exact e)]
theorem grown_set (w : World) (a : Addr) (v : Value) : w.grownBy (w.setCell a v) (some a.block) :=
  ⟨rfl, rfl, rfl, Nat.le_of_eq (setCell_size a v).symm, fun _ _ hn => setCell_other fun e => hn (by rw [e])⟩
theorem grown_trans2 {a b c : World} {row : Option Nat} (h : a.grownBy b row) (k : b.grownBy c row) : a.grownBy c row :=
  ⟨k.os.trans h.os, k.tape.trans h.tape, k.output.trans h.output, Nat.le_trans h.size k.size, fun i hi hn => (k.block i (Nat.lt_of_lt_of_le hi h.size) hn).trans (h.block i hi hn)⟩
/-- A turn of new memory turns nothing that lay. -/
theorem grown_new {a b c : World} {row : Option Nat} (h : a.grownBy b none) (k : b.grownBy c row) (hg : ∀ g, row = some g → a.heap.size ≤ g) : a.grownBy c none :=
  ⟨k.os.trans h.os, k.tape.trans h.tape, k.output.trans h.output, Nat.le_trans h.size k.size, fun i hi _ => (k.block i (Nat.lt_of_lt_of_le hi h.size) (fun e => by have := hg i e.symm; omega)).trans (h.block i hi (by simp))⟩
theorem below_grown {a b : World} (h : a.grownBy b none) : Below a.heap.size a b := ⟨h.os, h.tape, h.output, h.size, fun i hi => h.block i hi (by simp)⟩
end
end Go.Own
