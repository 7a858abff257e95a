/-
  A whole struct into, and out of, a block of its own. No program.
  A whole struct out of a block of its own, where a guard stands. No program.
-/
import Derived.Test.YtkpppjhbmnfmkaaGreatDoorBase
import Derived.Laws.Rows
import Derived.Laws.Tables
import Derived.Laws.World
import Derived.BigFrame
set_option linter.unusedSimpArgs false
set_option linter.unusedVariables false
section
namespace Go.Own
open Go Go.RowKit
section
variable {P : Program}
theorem run_storeAt_row (w : World) (g : Nat) (t ty : TypeId) (old cells : Array Value) (hb : Blk w g t old) (hi : (P.info? ty).map (·.size) = some cells.size) (ho : old.size = cells.size) (h1 : cells.all (·.oneCell') = true) :
    (Instr.storeAt ty (.pointer (some ⟨g, 0, none⟩)) (.agg cells)).run P w = .ok () (w.setRow g cells) := by
  simp only [Instr.storeAt, Instr.sureAddr, Sem.run_bind, Sem.run_pure, Result.andThen]
  exact run_storeVar_row w g t ty old cells hb hi ho h1
theorem Blk.row {w : World} {g : Nat} {t : TypeId} {old : Array Value} (hb : Blk w g t old) (cells : Array Value) : Blk (w.setRow g cells) g t cells := by
  unfold Blk at hb ⊢
  simp [World.setRow, Array.getElem?_modify, hb]
theorem grown_row {w : World} {g : Nat} (cells : Array Value) : w.grownBy (w.setRow g cells) (some g) :=
  ⟨rfl, rfl, rfl, by simp [World.setRow], fun i _ hne => by
    have h : ¬ g = i := fun e => hne (by rw [e])
    simp [World.setRow, Array.getElem?_modify, h]⟩
variable {ops : Array Oper} {rest : List Oper} {o : Oper} {a : Act} {Q : Exit → Act → World → Prop}
theorem wpList_rowPut (w : World) (hg : o.guard = none) (p x : Operand) (ty : TypeId) (hop : o.op = Op.store ty p x) (g : Nat) (t : TypeId) (old cells : Array Value) (hp : a.eval p = .pointer (some ⟨g, 0, none⟩)) (hx : a.eval x = .agg cells)
    (hb : Blk w g t old) (hi : (P.info? ty).map (·.size) = some cells.size) (ho : old.size = cells.size) (h1 : cells.all (·.oneCell') = true)
    (hK : ∀ w', Blk w' g t cells → w.grownBy w' (some g) → wpList P ops Q rest (a.put o.dst undef) w') : wpList P ops Q (o :: rest) a w := by
  refine wpList_plain hg fun K' hK' => ?_
  have hrun := run_storeAt_row (P := P) w g t ty old cells hb hi ho h1
  unfold Oper.wp
  simp [execOp, hop, hp, hx, hrun, Result.andThen]
  exact hK' _ _ (hK _ (hb.row cells) (grown_row cells))
theorem run_loadAt_row (w : World) (g : Nat) (t ty : TypeId) (cells : Array Value) (hb : Blk w g t cells) (d : TypeDesc) (hu : P.underlying ty = some d) (hd : (match d with | .struct _ | .array _ _ => true | _ => false) = true) (hi : (P.info? ty).map (·.size) = some cells.size) :
    (Instr.loadAt ty (.pointer (some ⟨g, 0, none⟩))).run P w = .ok (.agg cells) w := by
  simp only [Instr.loadAt, Instr.sureAddr, Sem.run_bind, Sem.run_pure, Result.andThen]
  exact run_loadVar_row w g t ty cells (0, 0) d hb hu hd hi
theorem wpList_rowGet (w : World) (hg : o.guard = none) (p : Operand) (ty : TypeId) (hop : o.op = Op.load ty p) (g : Nat) (t : TypeId) (cells : Array Value) (hp : a.eval p = .pointer (some ⟨g, 0, none⟩)) (hb : Blk w g t cells) (d : TypeDesc) (hu : P.underlying ty = some d)
    (hd : (match d with | .struct _ | .array _ _ => true | _ => false) = true) (hi : (P.info? ty).map (·.size) = some cells.size) (hK : wpList P ops Q rest (a.put o.dst (.agg cells)) w) : wpList P ops Q (o :: rest) a w := by
  refine wpList_plain hg fun K' hK' => ?_
  have hrun := run_loadAt_row (P := P) w g t ty cells hb d hu hd hi
  unfold Oper.wp
  simp [execOp, hop, hp, hrun, Result.andThen]
  exact hK' _ _ hK
end
end Go.Own
end

section
namespace Go.Own
open Go Go.RowKit
section
variable {P : Program} {ops : Array Oper} {rest : List Oper} {o : Oper} {a : Act} {Q : Exit → Act → World → Prop}
theorem wpList_rowGetW (w : World) (hw : Region.wanted o (yielded ops a.tmps) = true) (p : Operand) (ty : TypeId) (hop : o.op = Op.load ty p) (g : Nat) (t : TypeId) (cells : Array Value) (hp : a.eval p = .pointer (some ⟨g, 0, none⟩)) (hb : Blk w g t cells) (d : TypeDesc) (hu : P.underlying ty = some d)
    (hd : (match d with | .struct _ | .array _ _ => true | _ => false) = true) (hi : (P.info? ty).map (·.size) = some cells.size) (hK : wpList P ops Q rest (a.put o.dst (.agg cells)) w) : wpList P ops Q (o :: rest) a w := by
  refine BigFrame.wpList_want hw fun K' hK' => ?_
  have hrun := run_loadAt_row (P := P) w g t ty cells hb d hu hd hi
  unfold Oper.wp
  simp [execOp, hop, hp, hrun, Result.andThen]
  exact hK' _ _ hK
/-- The like, in a region that draws its order. -/
theorem step_rowGet {K : Act → World → Prop} {E : Prop} (w : World) (hgd : o.guard = none) (p : Operand) (ty : TypeId) (hop : o.op = Op.load ty p) (g : Nat) (t : TypeId) (cells : Array Value) (hp : a.eval p = .pointer (some ⟨g, 0, none⟩)) (d : TypeDesc) (hu : P.underlying ty = some d)
    (hd : (match d with | .struct _ | .array _ _ => true | _ => false) = true) (hi : (P.info? ty).map (·.size) = some cells.size) (hb : Blk w g t cells) (hK : K (a.put o.dst (.agg cells)) w) :
    if Region.wanted o (yielded ops a.tmps) = true then Oper.wp P o a w K Q else E := by
  have hw : Region.wanted o (yielded ops a.tmps) = true := by simp [Region.wanted, hgd]
  rw [if_pos hw]
  have hrun := run_loadAt_row (P := P) w g t ty cells hb d hu hd hi
  unfold Oper.wp
  simp [execOp, hop, hp, hrun, Result.andThen]
  exact hK
end
end Go.Own
end
