/-
  Map literals: insert, look up, whatever the kind of the keys. No program.
-/
import Derived.Test.YtoafmhbgbofgoaaGreatDoorBase
namespace Go.Own
open Go.RowKit
section
variable {P : Program} {t k e : TypeId} {d : TypeDesc}
theorem run_mapPut (ht : P.underlying t = some (.map k e)) (hk : P.underlying k = some d) (w : World) (r clock : Nat) (es : Array MapEntry) (key val : Value) (hkey : MapKept.IsKey d key)
    (hb : w.heap[r]? = some (.map es clock)) (hf : Instr.findNow d key es.toList 0 = some none) :
    (Instr.mapUpdate t (.map (some r)) key val).run P w = .ok () { w with heap := w.heap.setIfInBounds r (.map (es.push { key := key, val := val, born := clock }) (clock + 1)) } := by
  have hc : (Instr.checkKey false 10000 k key).run P w = .ok () w := MapKept.run_checkKey hk hkey false 9999
  simp [Instr.mapUpdate, run_underlying ht, MapKept.run_getObj_map hb, hc, MapKept.run_findKey hk hf, MapKept.run_setObj_map _ hb, Result.andThen]
theorem run_look (ht : P.underlying t = some (.map k e)) (hk : P.underlying k = some d) (w : World) (r clock : Nat) (es : Array MapEntry) (key val : Value) (i : Nat) (hkey : MapKept.IsKey d key)
    (hb : w.heap[r]? = some (.map es clock)) (hf : Instr.findNow d key es.toList 0 = some (some (i, val))) :
    (Instr.lookup t (.map (some r)) key false).run P w = .ok val w := by
  have hc : (Instr.checkKey es.isEmpty 10000 k key).run P w = .ok () w := MapKept.run_checkKey hk hkey _ 9999
  simp [Instr.lookup, run_underlying ht, MapKept.run_getObj_map hb, hc, MapKept.run_findKey hk hf, Result.andThen]
variable {ops : Array Oper} {rest : List Oper} {o : Oper} {a : Act} {Q : Exit → Act → World → Prop}
theorem wpList_mapPut (w : World) (hg : o.guard = none) (m x v : Operand) (hop : o.op = Op.insert t m x v) (ht : P.underlying t = some (.map k e)) (hk : P.underlying k = some d)
    (r clock : Nat) (es : Array MapEntry) (key val : Value) (hm : a.eval m = .map (some r)) (hx : a.eval x = key) (hv : a.eval v = val) (hkey : MapKept.IsKey d key)
    (hb : w.heap[r]? = some (.map es clock)) (hf : Instr.findNow d key es.toList 0 = some none)
    (hK : ∀ w', w'.heap[r]? = some (.map (es.push { key := key, val := val, born := clock }) (clock + 1)) → w.grownBy w' (some r) → w'.heap.size = w.heap.size → wpList P ops Q rest (a.put o.dst undef) w') :
    wpList P ops Q (o :: rest) a w := by
  refine wpList_plain hg fun K hK' => ?_
  unfold Oper.wp
  have hr := run_mapPut (P := P) ht hk w r clock es key val hkey hb hf
  simp [execOp, hop, hm, hx, hv, hr, Result.andThen]
  refine hK' _ _ (hK _ ?_ ⟨rfl, rfl, rfl, by simp, fun i hi hne => ?_⟩ (by simp))
  · exact (MapKept.heap_set (w := w) (o' := .map (es.push { key := key, val := val, born := clock }) (clock + 1)) hb).1
  · exact (MapKept.heap_set (w := w) hb).2 i (fun h => hne (by rw [h]))
end
def entB (k : Int) (v : Int) (n : Nat) : MapEntry := { key := .int .u8 k, val := .int .i64 v, born := n }
end Go.Own
