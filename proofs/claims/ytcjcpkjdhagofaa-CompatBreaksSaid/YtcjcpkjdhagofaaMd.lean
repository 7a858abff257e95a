/-
  The state in the midst of compat's message: the field, the break, the other field, the list.
-/
import Derived.Test.YtcjcpkjdhagofaaQs
import Derived.Test.YtcjcpkjdhagofaaBt
namespace Go.Proofs.Ytcjcpkjdhagofaa
open Go.RowKit Go.Own Go.Own.Cm Go.Shelf
structure Mid (pb b9 b10 b11 : Nat) (w0 : World) (v0 : Value) (nm : ByteArray) (f g : FldV) (L : List BrkV) (why : Int) (js : Bool) (W : World) (v : Value) : Prop where
  ls : LSc pb W v L
  st : LStep pb w0 v0 W v
  hf : Blk W b9 42 f.cells
  hb : Blk W b10 46 (BrkV.cells ⟨nm, f.nm, f.num, why, js⟩)
  hg : Blk W b11 42 g.cells
  own : v.ownBlock ≠ some b9 ∧ v.ownBlock ≠ some b10 ∧ v.ownBlock ≠ some b11
  ne : (b9 ≠ pb ∧ b10 ≠ pb ∧ b11 ≠ pb) ∧ b9 ≠ b10 ∧ b11 ≠ b10
section
variable {pb b9 b10 b11 : Nat} {w0 W W' : World} {v0 v : Value} {nm : ByteArray} {f g : FldV} {L : List BrkV} {why : Int} {js : Bool}
theorem Mid.below (h : Mid pb b9 b10 b11 w0 v0 nm f g L why js W v) (hb : Below W.heap.size W W') : Mid pb b9 b10 b11 w0 v0 nm f g L why js W' v :=
  ⟨h.ls.below hb, h.st.trans (LStep.of_below hb), h.hf.below hb h.hf.lt, h.hb.below hb h.hb.lt, h.hg.below hb h.hg.lt, h.own, h.ne⟩
theorem Mid.put (h : Mid pb b9 b10 b11 w0 v0 nm f g L why js W v) (i : Nat) (u : Value) {why' : Int} {js' : Bool} (hw0 : w0.heap.size ≤ b10) (he : (BrkV.cells ⟨nm, f.nm, f.num, why, js⟩).setIfInBounds i u = BrkV.cells ⟨nm, f.nm, f.num, why', js'⟩) :
    Mid pb b9 b10 b11 w0 v0 nm f g L why' js' (W.setCell ⟨b10, i, none⟩ u) v := by
  refine ⟨⟨h.ls.blk.far (Ne.symm h.ne.1.2.1) _, h.ls.own.grown (grown_setCell (World.grownBy.refl W (some b10)) i _) (.inr h.own.2.1)⟩, ⟨h.st.os, h.st.tape, h.st.output, by simpa [World.setCell] using h.st.size, fun j hj hp hv => ?_, h.st.own⟩, h.hf.far h.ne.2.1 _, ?_, h.hg.far h.ne.2.2 _, h.own, h.ne⟩
  · exact (Below.heap_setCell W ⟨b10, i, none⟩ u j (by show j ≠ b10; omega)).trans (h.st.block j hj hp hv)
  · rw [← he]; exact h.hb.put i u
theorem Mid.app (h : Mid pb b9 b10 b11 w0 v0 nm f g L why js W v) {W0 W1 : World} {A' : Option Addr} {n' c' : Nat} {L' : List BrkV} (hb : Below W.heap.size W W0) (hown : Ew BrkV.cells 46 5 W1 (pb + 1) (.slice A' n' c') L') (hg : W0.grownBy W1 v.ownBlock)
    (hv : (Value.slice A' n' c').ownBlock = v.ownBlock ∨ (Value.slice A' n' c').ownBlock = some W0.heap.size) :
    Mid pb b9 b10 b11 w0 v0 nm f g L' why js (W1.setCell ⟨pb, 0, none⟩ (.slice A' n' c')) (.slice A' n' c') := by
  have h1 := h.ls.app hb hown hg hv
  have far : ∀ {i : Nat}, i < W.heap.size → v.ownBlock ≠ some i → (Value.slice A' n' c').ownBlock ≠ some i := fun {i} hi hn e => by
    rcases hv with e' | e'
    · rw [e'] at e; exact hn e
    · rw [e'] at e; injection e with e; have := hb.size; omega
  exact ⟨h1.1, h.st.trans h1.2, h1.2.blk h.hf h.ne.1.1 h.own.1, h1.2.blk h.hb h.ne.1.2.1 h.own.2.1, h1.2.blk h.hg h.ne.1.2.2 h.own.2.2, ⟨far h.hf.lt h.own.1, far h.hb.lt h.own.2.1, far h.hg.lt h.own.2.2⟩, h.ne⟩
end
end Go.Proofs.Ytcjcpkjdhagofaa
