/-
  health.New: a board of its own memory.
-/
import Derived.Test.YtnffhmkcegiacaaDoorKp
import Derived.Test.YtnffhmkcegiacaaDoorLo
import Derived.Conc.MuLone
import Derived.Maps.OwnSet
import Derived.Maps.OwnIn
import Derived.Sort.KeysCollected
import Derived.Shelf.Abstract
import Derived.Carry
import Derived.WalkKit
import Derived.WalkSpells
namespace Go.Own.Hl
open Go Go.RowKit Go.Own Go.Maps
def bdCells (ms mw : Nat) (most last : Int) (sh : Bool) : Array Value := #[.int .i32 0, .int .u32 0, .int .i64 most, .map (some ms), .map (some mw), .int .i64 last, .bool sh]
/-- A value held as it is. -/
def heldR (v : Value) : Option (DataW Value × List MemPlace) := some (.held v, [])
section
variable {H : Type} {P : Program} {w : World}
variable {ops : Array Oper} {rest : List Oper} {o : Oper} {a : Act} {Q : Exit → Act → World → Prop}
theorem wpList_insert_in (hg : o.guard = none) (m x v : Operand) (t : TypeId) (hop : o.op = Op.insert t m x v)
    (k e : TypeId) (K : Keyed P k) (ht : P.underlying t = some (.map k e)) (R : Value → Option (DataW H × List MemPlace)) (b n : Nat) (D : DataW H)
    (hm : a.eval m = .map (some b)) (hown : w.ownsMap P k R b n D) (hn : n < maxLen) (key val : Value) (kl : Lit) (hx : a.eval x = key) (hv : a.eval v = val) (hkey : keyOf P k key = some kl)
    (d : DataW H) (ps : List MemPlace) (hval : R val = some (d, ps))
    (hK : ∀ w', w'.ownsMap P k R b (n + 1) (D.put kl d) → w.mapTurned w' b → wpList P ops Q rest (a.put o.dst undef) w') :
    wpList P ops Q (o :: rest) a w := by
  refine wpList_plain hg fun K' hK' => ?_
  obtain ⟨w', hrun, r1, r2⟩ := hown.store K ht hn hkey hval
  unfold Oper.wp
  simp [execOp, hop, hm, hx, hv, hrun, Result.andThen]
  exact hK' _ _ (hK w' r1 r2)
end
end Go.Own.Hl
namespace Go.Proofs.YtnffhmkcegiacaaDoor
open Go.RowKit Go.Own Go.Own.Hl Go.Maps Go.Shelf
attribute [local go_sem] Oper.semAt_some
theorem kS : Keyed Tryd.prog 9 := string_keyed Tryd.underlying9
theorem kI : Keyed Tryd.prog 3 := int_keyed Tryd.underlying3
theorem key_str (s : ByteArray) (h : s.size ≤ maxLen) : keyOf Tryd.prog 9 (.string s) = some (.string s.data.toList) := by
  rw [keyOf_string Tryd.underlying9]
  simp [mapKey, Tryd.underlying9, Lit.wf, h]
/-- A board: its block, its services, its watches. -/
structure Bd (w : World) (bb ms mw : Nat) (most last : Int) (sh : Bool) (n nw : Nat) (D : DataW Unit) (Dw : DataW Value) : Prop where
  blk : Blk w bb 55 (bdCells ms mw most last sh)
  svc : w.ownsMap Tryd.prog 9 (plainElem Tryd.prog 3) ms n D
  wat : w.ownsMap Tryd.prog 3 heldR mw nw Dw
  ne1 : ms ≠ bb
  ne2 : mw ≠ bb
  ne3 : ms ≠ mw
def D0 : DataW Unit := (DataW.map []).put (.string []) (.lit (.int .i64 1))
set_option maxHeartbeats 4000000 in
set_option maxRecDepth 100000 in
theorem new_any (m : Int) (hm : 1 ≤ m ∧ m ≤ 1000) (w : World) : Calls Tryd.prog 6 #[.int .i64 m] w fun e w' =>
    ∃ bb ms mw, e = .returned (.tuple #[.pointer (some ⟨bb, 0, none⟩), .nilIface]) ∧ Bd w' bb ms mw m 0 false 1 0 D0 (.map []) ∧ Below w.heap.size w w' ∧ w.heap.size ≤ bb ∧ w.heap.size ≤ ms ∧ w.heap.size ≤ mw := by
  have hmm := @run_makeMap Tryd.prog
  obtain ⟨h1, h2⟩ := hm
  obtain ⟨w1, hrun, hown1, hturn1⟩ := (World.ownsMap_made (H := Unit) w Tryd.prog 9 (plainElem Tryd.prog 3)).store kS Tryd.underlying45 (by decide) (key := .string ⟨#[]⟩) (val := .int .i64 1) (kl := .string []) (d := .lit (.int .i64 1)) (ps := []) (key_str ⟨#[]⟩ (by decide)) (plainElem_int Tryd.underlying3 (by decide))
  go_enter Tryd.func6, Tryd.ntmps6
  go_wp2
  have hs1 : w.heap.size + 1 ≤ w1.heap.size := by have := hturn1.grown.size; simpa using this
  have hb1 : Below w.heap.size w w1 := ((Below.refl _ _).alloc (Nat.le_refl _) _).grown hturn1.grown (by simp) (fun j hj => by cases hj; exact Nat.le_refl _)
  go_ret2
  refine ⟨w1.heap.size + 1, w.heap.size, w1.heap.size, rfl, ⟨?_, (hown1.alloc _).alloc _, ?_, by omega, by omega, by omega⟩, (hb1.alloc (by omega) _).alloc (by simp; omega) _, by omega, by omega, by omega⟩
  · have h := Blk.new (w1.alloc (.map #[] 0)) 55 (bdCells w.heap.size w1.heap.size m 0 false)
    rw [World.size_alloc] at h
    exact h
  · exact (World.ownsMap_made w1 Tryd.prog 3 heldR).alloc _
end Go.Proofs.YtnffhmkcegiacaaDoor
