/-
  Contract of the document: both; a list of one's own that grows.
-/
import Derived.Test.YtcjcpkjdhagofaaRm
namespace Go.Own.Cm
open Go Go.RowKit Go.Own
/-- What may have changed when a list of one's own has grown from v to v'. -/
structure GrSt (W : World) (v : Value) (W' : World) (v' : Value) : Prop where
  os : W'.os = W.os
  tape : W'.tape = W.tape
  output : W'.output = W.output
  size : W.heap.size ≤ W'.heap.size
  block : ∀ i, i < W.heap.size → v.ownBlock ≠ some i → W'.heap[i]? = W.heap[i]?
  own : ∀ g, v'.ownBlock = some g → v.ownBlock = some g ∨ W.heap.size ≤ g
section
variable {W W1 W2 : World} {v v1 v2 : Value}
theorem GrSt.refl (W : World) (v : Value) : GrSt W v W v := ⟨rfl, rfl, rfl, Nat.le_refl _, fun _ _ _ => rfl, fun _ h => .inl h⟩
theorem GrSt.trans (h : GrSt W v W1 v1) (k : GrSt W1 v1 W2 v2) : GrSt W v W2 v2 :=
  ⟨k.os.trans h.os, k.tape.trans h.tape, k.output.trans h.output, Nat.le_trans h.size k.size, fun i hi hv => (k.block i (Nat.lt_of_lt_of_le hi h.size) (fun e => by rcases h.own i e with e | e; exact hv e; omega)).trans (h.block i hi hv),
    fun g hg => by
      rcases k.own g hg with e | e
      · exact h.own g e
      · exact .inr (Nat.le_trans h.size e)⟩
theorem GrSt.of_below (h : Below W.heap.size W W1) : GrSt W v W1 v := ⟨h.os, h.tape, h.output, h.size, fun i hi _ => h.block i hi, fun _ e => .inl e⟩
theorem GrSt.of_grown (h : W.grownBy W1 v.ownBlock) (hv : v1.ownBlock = v.ownBlock ∨ v1.ownBlock = some W.heap.size) : GrSt W v W1 v1 :=
  ⟨h.os, h.tape, h.output, h.size, fun i hi hn => h.block i hi (fun e => hn e.symm), fun g e => by
    rcases hv with e' | e'
    · rw [e'] at e; exact .inl e
    · rw [e'] at e; injection e with e; exact .inr (by omega)⟩
theorem GrSt.blk {g : Nat} {t : TypeId} {cs : Array Value} (h : GrSt W v W1 v1) (hb : Blk W g t cs) (hv : v.ownBlock ≠ some g) : Blk W1 g t cs := (h.block g hb.lt hv).trans hb
theorem GrSt.under {base : Nat} (h : GrSt W v W1 v1) (hv : ∀ g, v.ownBlock = some g → base ≤ g) (hb : base ≤ W.heap.size) : Below base W W1 :=
  ⟨h.os, h.tape, h.output, h.size, fun i hi => h.block i (by omega) (fun e => by have := hv i e; omega)⟩
end
end Go.Own.Cm
namespace Go.Proofs.Ytcjcpkjdhagofaa
open Go.RowKit Go.Own Go.Own.Cm Go.Shelf
attribute [local go_sem] Oper.semAt_some
abbrev ErR := Ew BrkV.cells 32 5
/-- An owned list of breaks, and what became of the world. -/
structure OutL (base : Nat) (W : World) (v : Value) (L : List BrkV) (w' : World) (v' : Value) : Prop where
  own : ErR w' base v' L
  st : GrSt W v w' v'
def GrowPost (base : Nat) (W : World) (v : Value) (L : List BrkV) (e : Ending) (w' : World) : Prop := ∃ A c, e = .returned (.slice A L.length c) ∧ Hid (OutL base W v L w' (.slice A L.length c))
set_option maxHeartbeats 4000000 in
set_option maxRecDepth 100000 in
theorem bothR_any (base : Nat) (W : World) (v : Value) (L : List BrkV) (b : BrkV) (hown : ErR W base v L) (hbase : base ≤ W.heap.size) (hL : L.length ≤ 100000) :
    Calls Try.prog 19 #[v, .agg b.cells] W (GrowPost base W v (L ++ bothL b)) := by
  obtain ⟨A, c, rfl, _⟩ := hown.form
  obtain ⟨bm, bw, bn, by_, bj⟩ := b
  simp only [BrkV.cells]
  have HS := Lib.hid hown
  have HL := Lib.hid hL
  have HBa := Lib.hid hbase
  clear hown hL hbase
  have hb1 : Below W.heap.size W (W.alloc (.cells #[.string bm, .string bw, .int .i64 bn, .int .i64 by_, .bool bj] 32)) := (Below.refl _ _).alloc (Nat.le_refl _) _
  have HN1 := Lib.hid (Blk.new W 32 #[.string bm, .string bw, .int .i64 bn, .int .i64 by_, .bool bj])
  have HB1 := Lib.hid hb1
  have HO1 := Lib.hid (HS.out.below hb1)
  clear hb1
  go_enter Try.func19, Try.ntmps19
  have HW2 : Hid (Ew BrkV.cells 32 5 ((W.alloc (.cells #[.string bm, .string bw, .int .i64 bn, .int .i64 by_, .bool bj] 32)).alloc (.cells #[.string bm, .string bw, .int .i64 bn, .int .i64 by_, .bool bj] 32)) base (.slice A L.length c) L) := Lib.hid (HO1.out.below ((Below.refl _ _).alloc (Nat.le_refl _) _))
  have HR2 : Hid (RS BrkV.cells 5 ((W.alloc (.cells #[.string bm, .string bw, .int .i64 bn, .int .i64 by_, .bool bj] 32)).alloc (.cells #[.string bm, .string bw, .int .i64 bn, .int .i64 by_, .bool bj] 32)) (W.heap.size + 2) (some ⟨W.heap.size + 1, 0, none⟩) 1 [⟨bm, bw, bn, by_, bj⟩]) := Lib.hid (by
    have h := (Ew.lit (k := 5) BrkV.cells 32 (fun _ => rfl) (W.alloc (.cells #[.string bm, .string bw, .int .i64 bn, .int .i64 by_, .bool bj] 32)) [⟨bm, bw, bn, by_, bj⟩] (by simp)).rs (fun _ => rfl) (by omega)
    have h2 : RS BrkV.cells 5 ((W.alloc (.cells #[.string bm, .string bw, .int .i64 bn, .int .i64 by_, .bool bj] 32)).alloc (.cells #[.string bm, .string bw, .int .i64 bn, .int .i64 by_, .bool bj] 32)) _ (some ⟨(W.alloc (.cells #[.string bm, .string bw, .int .i64 bn, .int .i64 by_, .bool bj] 32)).heap.size, 0, none⟩) 1 [⟨bm, bw, bn, by_, bj⟩] := h
    simpa using h2)
  have HB2 := Lib.hid (HB1.out.alloc HB1.out.size (.cells #[.string bm, .string bw, .int .i64 bn, .int .i64 by_, .bool bj] 32))
  go_wp2_with (first
    | (at_builtin
       refine wpList_app_e elBrkR _ rfl (.tmp 10) (.tmp 12) rfl base (.slice A4 (L.length + 1) c4) (L ++ [⟨bm, bw, bn, by_, bj⟩]) rfl HO5.out (w4.heap.size + 1) (some ⟨w4.heap.size, 0, none⟩) 1 1 [⟨bm, bw, bn, by_, true⟩] rfl HR5.out (by have := HL.out; simp; omega) (by have := HBa.out; have := HG5.out.size; omega) ?_
       intro A6 c6 w6 hown hg hv
       have HO6 := Lib.hid hown
       have HG6 := Lib.hid (HG5.out.trans (GrSt.of_grown hg hv))
       clear hown hg hv)
    | (at_builtin
       refine wpList_app_e elBrkR _ rfl (.tmp 5) (.tmp 7) rfl base (.slice A L.length c) L rfl HW2.out (W.heap.size + 2) (some ⟨W.heap.size + 1, 0, none⟩) 1 1 [⟨bm, bw, bn, by_, bj⟩] rfl HR2.out (by have := HL.out; omega) (by have := HBa.out; simp; omega) ?_
       intro A4 c4 w4 hown hg hv
       have HO4 := Lib.hid hown
       have HG4 := Lib.hid ((GrSt.of_below HB2.out).trans (GrSt.of_grown hg hv))
       have hfar : (Value.slice A L.length c).ownBlock ≠ some W.heap.size := fun e => by have := (HS.out.lt _ e).2; omega
       have HN4 := Lib.hid ((HN1.out.alloc (.cells #[.string bm, .string bw, .int .i64 bn, .int .i64 by_, .bool bj] 32)).grown hg (fun e => hfar e.symm))
       have HF4 : Hid ((Value.slice A4 (L.length + 1) c4).ownBlock ≠ some W.heap.size) := Lib.hid (by
         intro e
         rcases hv with e' | e'
         · rw [e'] at e; exact hfar e
         · rw [e'] at e; injection e with e; simp at e; omega)
       have e0 := HN4.out.cell 0
       have e1 := HN4.out.cell 1
       have e2 := HN4.out.cell 2
       have e3 := HN4.out.cell 3
       have e4 := HN4.out.cell 4
       simp only [List.getElem?_toArray, List.getElem?_cons_zero, List.getElem?_cons_succ] at e0 e1 e2 e3 e4
       have q4 := HN4.out.frozen 4
       have lw4 := HN4.out.lt
       have HO5 : Hid (Ew BrkV.cells 32 5 ((w4.setCell ⟨W.heap.size, 4, none⟩ (.bool true)).alloc (.cells #[.string bm, .string bw, .int .i64 bn, .int .i64 by_, .bool true] 32)) base (.slice A4 (L.length + 1) c4) (L ++ [⟨bm, bw, bn, by_, bj⟩])) := Lib.hid ((hown.grown (grown_setCell (World.grownBy.refl _ (some W.heap.size)) 4 _) (.inr HF4.out)).below ((Below.refl _ _).alloc (Nat.le_refl _) (.cells #[.string bm, .string bw, .int .i64 bn, .int .i64 by_, .bool true] 32)))
       have HR5 : Hid (RS BrkV.cells 5 ((w4.setCell ⟨W.heap.size, 4, none⟩ (.bool true)).alloc (.cells #[.string bm, .string bw, .int .i64 bn, .int .i64 by_, .bool true] 32)) (w4.heap.size + 1) (some ⟨w4.heap.size, 0, none⟩) 1 [⟨bm, bw, bn, by_, true⟩]) := Lib.hid (by
         have h := (Ew.lit (k := 5) BrkV.cells 32 (fun _ => rfl) (w4.setCell ⟨W.heap.size, 4, none⟩ (.bool true)) [⟨bm, bw, bn, by_, true⟩] (by simp)).rs (fun _ => rfl) (by omega)
         have h2 : RS BrkV.cells 5 ((w4.setCell ⟨W.heap.size, 4, none⟩ (.bool true)).alloc (.cells #[.string bm, .string bw, .int .i64 bn, .int .i64 by_, .bool true] 32)) _ (some ⟨(w4.setCell ⟨W.heap.size, 4, none⟩ (.bool true)).heap.size, 0, none⟩) 1 [⟨bm, bw, bn, by_, true⟩] := h
         simpa using h2)
       have HG5 : Hid (GrSt W (.slice A L.length c) ((w4.setCell ⟨W.heap.size, 4, none⟩ (.bool true)).alloc (.cells #[.string bm, .string bw, .int .i64 bn, .int .i64 by_, .bool true] 32)) (.slice A4 (L.length + 1) c4)) := Lib.hid ⟨HG4.out.os, HG4.out.tape, HG4.out.output, by have := HG4.out.size; simp [World.setCell]; omega, fun i hi hn => ((Below.heap_alloc (w4.setCell ⟨W.heap.size, 4, none⟩ (.bool true)) _ i (by have := HG4.out.size; simp [World.setCell]; omega)).trans (Below.heap_setCell w4 ⟨W.heap.size, 4, none⟩ (.bool true) i (by show i ≠ W.heap.size; omega))).trans (HG4.out.block i hi hn), HG4.out.own⟩
       clear hown hg hv hfar))
  rw [List.length_append, List.length_singleton, List.append_assoc] at HO6
  rw [List.length_append, List.length_singleton] at HG6
  go_ret
  have e6 : (L ++ bothL ⟨bm, bw, bn, by_, bj⟩).length = L.length + 1 + 1 := by simp [bothL]
  unfold GrowPost
  rw [e6]
  exact ⟨A6, c6, rfl, Lib.hid ⟨HO6.out, HG6.out⟩⟩
end Go.Proofs.Ytcjcpkjdhagofaa
