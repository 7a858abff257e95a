/-
  compat's list of what hurts: its state in memory; contract: both.
-/
import Derived.Test.YtcjcpkjdhagofaaLm
import Derived.Deep.RegionHeld3
import Derived.Deep.RegionLaw
import Derived.Deep.DrawnRows
namespace Go.Own.Cm
open Go Go.RowKit Go.Own
/-- The list at block pb holds the slice v, which owns L. -/
structure LS (lt et : TypeId) (pb : Nat) (W : World) (v : Value) (L : List BrkV) : Prop where
  blk : Blk W pb lt #[v]
  own : Ew BrkV.cells et 5 W (pb + 1) v L
/-- What may have changed when the list has grown. -/
structure LStep (pb : Nat) (W : World) (v : Value) (W' : World) (v' : Value) : Prop where
  os : W'.os = W.os
  tape : W'.tape = W.tape
  output : W'.output = W.output
  size : W.heap.size ≤ W'.heap.size
  block : ∀ i, i < W.heap.size → i ≠ pb → v.ownBlock ≠ some i → W'.heap[i]? = W.heap[i]?
  own : ∀ g, v'.ownBlock = some g → v.ownBlock = some g ∨ W.heap.size ≤ g
section
variable {lt et : TypeId} {pb : Nat} {W W1 W2 : World} {v v1 v2 : Value} {L : List BrkV}
theorem LStep.refl (pb : Nat) (W : World) (v : Value) : LStep pb W v W v := ⟨rfl, rfl, rfl, Nat.le_refl _, fun _ _ _ _ => rfl, fun _ h => .inl h⟩
theorem LStep.trans (h : LStep pb W v W1 v1) (k : LStep pb W1 v1 W2 v2) : LStep pb W v W2 v2 :=
  ⟨k.os.trans h.os, k.tape.trans h.tape, k.output.trans h.output, Nat.le_trans h.size k.size, fun i hi hp hv => (k.block i (Nat.lt_of_lt_of_le hi h.size) hp (fun e => by rcases h.own i e with e | e; exact hv e; omega)).trans (h.block i hi hp hv),
    fun g hg => by
      rcases k.own g hg with e | e
      · exact h.own g e
      · exact .inr (Nat.le_trans h.size e)⟩
theorem LStep.of_below (h : Below W.heap.size W W1) : LStep pb W v W1 v := ⟨h.os, h.tape, h.output, h.size, fun i hi _ _ => h.block i hi, fun _ e => .inl e⟩
theorem LStep.blk {g : Nat} {t : TypeId} {cs : Array Value} (h : LStep pb W v W1 v1) (hb : Blk W g t cs) (hp : g ≠ pb) (hv : v.ownBlock ≠ some g) : Blk W1 g t cs := (h.block g hb.lt hp hv).trans hb
theorem LS.below (h : LS lt et pb W v L) (hb : Below W.heap.size W W1) : LS lt et pb W1 v L := ⟨h.blk.below hb h.blk.lt, h.own.below hb⟩
theorem LS.far (h : LS lt et pb W v L) {g : Nat} (hg : W.heap.size ≤ g) : v.ownBlock ≠ some g := fun e => by have := (h.own.lt g e).2; omega
/-- Whatever stands below the list's own block is as it was. -/
theorem LStep.under (h : LStep pb W v W1 v1) (hs : LS lt et pb W v L) : Below pb W W1 :=
  ⟨h.os, h.tape, h.output, h.size, fun i hi => h.block i (by have := hs.blk.lt; omega) (by omega) (fun e => by have := (hs.own.lt i e).1; omega)⟩
theorem LS.form (h : LS lt et pb W v L) : ∃ A c, v = .slice A L.length c := by
  obtain ⟨A, c, e, _⟩ := h.own.form
  exact ⟨A, c, e⟩
/-- An element has been appended, and the slice is stored. -/
theorem LS.app {A' : Option Addr} {n' c' : Nat} {L' : List BrkV} {W0 : World} (h : LS lt et pb W v L) (hb : Below W.heap.size W W0) (hown : Ew BrkV.cells et 5 W1 (pb + 1) (.slice A' n' c') L') (hg : W0.grownBy W1 v.ownBlock)
    (hv : (Value.slice A' n' c').ownBlock = v.ownBlock ∨ (Value.slice A' n' c').ownBlock = some W0.heap.size) :
    LS lt et pb (W1.setCell ⟨pb, 0, none⟩ (.slice A' n' c')) (.slice A' n' c') L' ∧ LStep pb W v (W1.setCell ⟨pb, 0, none⟩ (.slice A' n' c')) (.slice A' n' c') := by
  have hpb : v.ownBlock ≠ some pb := fun e => by have := (h.own.lt pb e).1; omega
  have hb1 : Blk W1 pb lt #[v] := (h.blk.below hb h.blk.lt).grown hg (fun e => hpb e.symm)
  have hb2 : Blk (W1.setCell ⟨pb, 0, none⟩ (.slice A' n' c')) pb lt #[.slice A' n' c'] := hb1.put 0 _
  refine ⟨⟨hb2, hown.grown (grown_setCell (World.grownBy.refl W1 (some pb)) 0 _) ?_⟩, ⟨hg.os.trans hb.os, hg.tape.trans hb.tape, hg.output.trans hb.output, ?_, fun i hi hp hv' => ?_, fun g e => ?_⟩⟩
  · refine .inr fun e => ?_
    have := (hown.lt pb e).1
    omega
  · have := hb.size; have := hg.size; simp [World.setCell]; omega
  · have e1 := Below.heap_setCell W1 ⟨pb, 0, none⟩ (.slice A' n' c') i hp
    have e2 := hg.block i (Nat.lt_of_lt_of_le hi hb.size) (fun e => hv' e.symm)
    exact e1.trans (e2.trans (hb.block i hi))
  · rcases hv with e' | e'
    · rw [e'] at e; exact .inl e
    · rw [e'] at e; injection e with e; have := hb.size; exact .inr (by omega)
end
end Go.Own.Cm
namespace Go.Proofs.Ytcjcpkjdhagofaa
open Go.RowKit Go.Own Go.Own.Cm Go.Shelf
attribute [local go_sem] Oper.semAt_some
abbrev LSc := LS 62 46
def BothPost (pb : Nat) (W : World) (v : Value) (L : List BrkV) (e : Ending) (w' : World) : Prop := e = .returned (.tuple #[]) ∧ ∃ v', LSc pb w' v' L ∧ LStep pb W v w' v'
set_option maxHeartbeats 4000000 in
set_option maxRecDepth 100000 in
theorem both_any (pb : Nat) (W : World) (v : Value) (L : List BrkV) (b : BrkV) (hs : LSc pb W v L) (hL : L.length ≤ 100000) :
    Calls Try.prog 35 #[.pointer (some ⟨pb, 0, none⟩), .agg b.cells] W (BothPost pb W v (L ++ bothL b)) := by
  obtain ⟨A, c, rfl⟩ := hs.form
  obtain ⟨bm, bw, bn, by_, bj⟩ := b
  simp only [BrkV.cells]
  have c0 : W.cell? ⟨pb, 0, none⟩ = some (.slice A L.length c) := hs.blk.cell 0
  have lp := hs.blk.lt
  have HS := Lib.hid hs
  have HL := Lib.hid hL
  clear hs hL
  go_enter Try.func35, Try.ntmps35
  go_wp2
  have HK : Hid (∀ w', Blk w' W.heap.size 46 #[.string bm, .string bw, .int .i64 bn, .int .i64 by_, .bool bj] → (w'.cell? ⟨W.heap.size, 0, none⟩ = some (.string bm) ∧ w'.cell? ⟨W.heap.size, 1, none⟩ = some (.string bw) ∧ w'.cell? ⟨W.heap.size, 2, none⟩ = some (.int .i64 bn) ∧ w'.cell? ⟨W.heap.size, 3, none⟩ = some (.int .i64 by_) ∧ w'.cell? ⟨W.heap.size, 4, none⟩ = some (.bool bj))) := Lib.hid fun w' h2 => ⟨h2.cell 0, h2.cell 1, h2.cell 2, h2.cell 3, h2.cell 4⟩
  have HN0 : Hid (Blk (W.alloc (.cells #[.string bm, .string bw, .int .i64 bn, .int .i64 by_, .bool bj] 46)) W.heap.size 46 #[.string bm, .string bw, .int .i64 bn, .int .i64 by_, .bool bj]) := Lib.hid (Blk.new _ _ _)
  have HP0 : Hid (Blk (W.alloc (.cells #[.string bm, .string bw, .int .i64 bn, .int .i64 by_, .bool bj] 46)) pb 62 #[.slice A L.length c]) := Lib.hid (HS.out.blk.alloc _)
  have HO1 : Hid (Ew BrkV.cells 46 5 ((W.alloc (.cells #[.string bm, .string bw, .int .i64 bn, .int .i64 by_, .bool bj] 46)).drew.alloc (.cells #[.string bm, .string bw, .int .i64 bn, .int .i64 by_, .bool bj] 46)) (pb + 1) (.slice A L.length c) L) := Lib.hid (HS.out.own.below (((Below.refl _ _).alloc (Nat.le_refl _) _).drew.alloc (by simp [World.drew]) _))
  have HR1 : Hid (RS BrkV.cells 5 ((W.alloc (.cells #[.string bm, .string bw, .int .i64 bn, .int .i64 by_, .bool bj] 46)).drew.alloc (.cells #[.string bm, .string bw, .int .i64 bn, .int .i64 by_, .bool bj] 46)) (W.heap.size + 2) (some ⟨W.heap.size + 1, 0, none⟩) 1 [⟨bm, bw, bn, by_, bj⟩]) := Lib.hid (by
    have h := (Ew.lit (k := 5) BrkV.cells 46 (fun _ => rfl) (W.alloc (.cells #[.string bm, .string bw, .int .i64 bn, .int .i64 by_, .bool bj] 46)).drew [⟨bm, bw, bn, by_, bj⟩] (by simp)).rs (fun _ => rfl) (by omega)
    have h2 : RS BrkV.cells 5 ((W.alloc (.cells #[.string bm, .string bw, .int .i64 bn, .int .i64 by_, .bool bj] 46)).drew.alloc (.cells #[.string bm, .string bw, .int .i64 bn, .int .i64 by_, .bool bj] 46)) _ (some ⟨(W.alloc (.cells #[.string bm, .string bw, .int .i64 bn, .int .i64 by_, .bool bj] 46)).drew.heap.size, 0, none⟩) 1 [⟨bm, bw, bn, by_, bj⟩] := h
    simpa using h2)
  go_region_law
    ((refine step_app_e elBrkL _ (by rfl) (.tmp 7) (.tmp 9) (by rfl) (pb + 1) (.slice A L.length c) L (by rfl) HO1.out (W.heap.size + 2) (some ⟨W.heap.size + 1, 0, none⟩) 1 1 [⟨bm, bw, bn, by_, bj⟩] (by rfl) HR1.out (by have := HL.out; omega) (by simp; omega) ?_
      intro A4 c4 w4 hown hg hv
      have HG4 := Lib.hid hg
      have HO4 := Lib.hid hown
      have HV4 := Lib.hid hv
      have hP4 := ((HP0.out.drewN 1).alloc (.cells #[.string bm, .string bw, .int .i64 bn, .int .i64 by_, .bool bj] 46)).grown hg (fun e => by have := (HS.out.own.lt pb e.symm).1; omega)
      have hf4 : w4.frozen? ⟨pb, 0, none⟩ = false := hP4.frozen 0
      have hc4 : w4.cell? ⟨pb, 0, none⟩ = some (.slice A L.length c) := hP4.cell 0
      have HP4 := Lib.hid hP4
      clear hP4
      have HN4 := Lib.hid (((HN0.out.drewN 1).alloc (.cells #[.string bm, .string bw, .int .i64 bn, .int .i64 by_, .bool bj] 46)).grown hg (fun e => HS.out.far (Nat.le_refl _) e.symm))
      have hS4 := HK.out w4 HN4.out
      clear hown hg hv))
  all_goals
    have hb0 : Below W.heap.size W ((W.alloc (.cells #[.string bm, .string bw, .int .i64 bn, .int .i64 by_, .bool bj] 46)).drew.alloc (.cells #[.string bm, .string bw, .int .i64 bn, .int .i64 by_, .bool bj] 46)) := ((Below.refl _ _).alloc (Nat.le_refl _) _).drew.alloc (by simp [World.drew]) _
    have h5 := HS.out.app hb0 HO4.out HG4.out HV4.out
    have hL5 := h5.1
    have hS5 := h5.2
    have hn5 : Blk (w4.setCell ⟨pb, 0, none⟩ (.slice A4 (L.length + 1) c4)) W.heap.size 46 #[.string bm, .string bw, .int .i64 bn, .int .i64 by_, .bool bj] := HN4.out.far (by show W.heap.size ≠ pb; omega) _
    have HNE : Hid ((Value.slice A4 (L.length + 1) c4).ownBlock ≠ some W.heap.size) := Lib.hid (by
      intro e
      rcases HV4.out with e' | e'
      · rw [e'] at e; exact HS.out.far (Nat.le_refl _) e
      · rw [e'] at e; injection e with e; simp at e; omega)
    clear hb0 h5 hf4 hc4 hS4 HP4 HN4 HV4 HO4 HG4
    generalize w4.setCell ⟨pb, 0, none⟩ (.slice A4 (L.length + 1) c4) = w5 at *
    have HL5 := Lib.hid hL5
    have HS5 := Lib.hid hS5
    have HN5 := Lib.hid hn5
    have e4 := hn5.cell 4
    have q4 := hn5.frozen 4
    have lw5 := hn5.lt
    clear hL5 hS5 hn5
    go_wp2_with fail
    have hn6 : Blk (w5.setCell ⟨W.heap.size, 4, none⟩ (.bool true)) W.heap.size 46 #[.string bm, .string bw, .int .i64 bn, .int .i64 by_, .bool true] := HN5.out.put 4 _
    have hL6 : LSc pb (w5.setCell ⟨W.heap.size, 4, none⟩ (.bool true)) (.slice A4 (L.length + 1) c4) (L ++ [⟨bm, bw, bn, by_, bj⟩]) := ⟨HL5.out.blk.far (by show pb ≠ W.heap.size; omega) _, HL5.out.own.grown (grown_setCell (World.grownBy.refl w5 (some W.heap.size)) 4 _) (.inr HNE.out)⟩
    have hS6 : LStep pb W (.slice A L.length c) (w5.setCell ⟨W.heap.size, 4, none⟩ (.bool true)) (.slice A4 (L.length + 1) c4) := ⟨HS5.out.os, HS5.out.tape, HS5.out.output, by simpa [World.setCell] using HS5.out.size, fun i hi hp hv => (Below.heap_setCell w5 _ _ i (by show i ≠ W.heap.size; omega)).trans (HS5.out.block i hi hp hv), HS5.out.own⟩
    clear HL5 HS5 HN5 HK HN0 HP0 HO1 HR1 e4 q4 lw5
    generalize w5.setCell ⟨W.heap.size, 4, none⟩ (.bool true) = w6 at *
    have HL6 := Lib.hid hL6
    have HS6 := Lib.hid hS6
    have HN6 := Lib.hid hn6
    have c6 : w6.cell? ⟨pb, 0, none⟩ = some (.slice A4 (L.length + 1) c4) := hL6.blk.cell 0
    have k0 := hn6.cell 0
    have k1 := hn6.cell 1
    have k2 := hn6.cell 2
    have k3 := hn6.cell 3
    have k4 := hn6.cell 4
    simp only [List.getElem?_toArray, List.getElem?_cons_zero, List.getElem?_cons_succ] at k0 k1 k2 k3 k4
    have lw6 := hn6.lt
    have lp6 := hL6.blk.lt
    have hb7 : Below w6.heap.size w6 (w6.alloc (.cells #[.string bm, .string bw, .int .i64 bn, .int .i64 by_, .bool true] 46)).drew := ((Below.refl _ _).alloc (Nat.le_refl _) _).drew
    have HO1 : Hid (Ew BrkV.cells 46 5 (w6.alloc (.cells #[.string bm, .string bw, .int .i64 bn, .int .i64 by_, .bool true] 46)).drew (pb + 1) (.slice A4 (L.length + 1) c4) (L ++ [⟨bm, bw, bn, by_, bj⟩])) := Lib.hid (hL6.own.below hb7)
    have HR1 : Hid (RS BrkV.cells 5 (w6.alloc (.cells #[.string bm, .string bw, .int .i64 bn, .int .i64 by_, .bool true] 46)).drew (w6.heap.size + 1) (some ⟨w6.heap.size, 0, none⟩) 1 [⟨bm, bw, bn, by_, true⟩]) := Lib.hid (by
      have h := (Ew.lit (k := 5) BrkV.cells 46 (fun _ => rfl) w6 [⟨bm, bw, bn, by_, true⟩] (by simp)).rs (fun _ => rfl) (by omega)
      have h2 : RS BrkV.cells 5 (w6.alloc (.cells #[.string bm, .string bw, .int .i64 bn, .int .i64 by_, .bool true] 46)) _ (some ⟨w6.heap.size, 0, none⟩) 1 [⟨bm, bw, bn, by_, true⟩] := h
      have h3 := h2.below ((Below.refl _ _).drew)
      simpa using h3)
    have HB7 := Lib.hid hb7
    clear hb7
    clear hL6 hS6 hn6
    go_region_law ((refine step_app_e elBrkL _ (by rfl) (.tmp 16) (.tmp 18) (by rfl) (pb + 1) (.slice A4 (L.length + 1) c4) (L ++ [⟨bm, bw, bn, by_, bj⟩]) (by rfl) HO1.out (w6.heap.size + 1) (some ⟨w6.heap.size, 0, none⟩) 1 1 [⟨bm, bw, bn, by_, true⟩] (by rfl) HR1.out (by have := HL.out; simp; omega) (by simp; omega) ?_
                    intro A8 c8 w8 hown hg hv
                    have HG8 := Lib.hid hg
                    have HO8 := Lib.hid hown
                    have HV8 := Lib.hid hv
                    have hP8 := (HL6.out.blk.below HB7.out HL6.out.blk.lt).grown hg (fun e => by have := (HL6.out.own.lt pb e.symm).1; omega)
                    have hf8 : w8.frozen? ⟨pb, 0, none⟩ = false := hP8.frozen 0
                    have hc8 : w8.cell? ⟨pb, 0, none⟩ = some (.slice A4 (L.length + 1) c4) := hP8.cell 0
                    clear hown hg hv hP8))
    all_goals
      go_end0
      have h8 := HL6.out.app HB7.out HO8.out HG8.out HV8.out
      rw [List.length_append, List.length_singleton] at h8
      refine ⟨rfl, _, ?_, HS6.out.trans h8.2⟩
      have h9 := h8.1
      rw [List.append_assoc] at h9
      exact h9
end Go.Proofs.Ytcjcpkjdhagofaa
