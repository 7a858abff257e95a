/-
  Maps of rules and of names that were met: how they lie in memory; what is looked up in them, and laid into them.
-/
import Derived.Test.YtkikcinpgbgbdaaDoorHm
import Derived.Test.YtkikcinpgbgbdaaDoorFn
import Derived.Maps.OwnSet
import Derived.Maps.OwnOps
import Derived.Maps.RangeWalk
import Derived.Maps.StringElems
namespace Go.Own.Hd
open Go Go.WideShapes Go.WideElems
variable {σ : Type}
/-- How a rule reads. -/
def okR (v : Value) : Bool := match v with
  | .agg cs => match cs.toList with
    | [.bool _, _] => true
    | _ => false
  | _ => false
def R6 (v : Value) : Option (DataW Value × List MemPlace) := if okR v then some (.held v, []) else none
theorem R6_mk (b : Bool) (f : Value) : R6 (.agg #[.bool b, f]) = some (.held (.agg #[.bool b, f]), []) := rfl
theorem R6_inv {v : Value} {y : DataW Value × List MemPlace} (h : R6 v = some y) : ∃ b f, v = .agg #[.bool b, f] ∧ y = (.held v, []) := by
  unfold R6 at h
  split at h
  · rename_i ho
    unfold okR at ho
    split at ho
    · rename_i cs
      split at ho
      · rename_i b f hcs
        refine ⟨b, f, ?_, by simpa using h.symm⟩
        obtain ⟨l⟩ := cs
        simp only at hcs
        rw [hcs]
      · cases ho
    · cases ho
  · cases h
def lt (nm : List UInt8) : Lit := .string nm
theorem keyLit (nm : List UInt8) : WideAt.IsKeyLit (lt nm) := by
  simp [lt, WideAt.IsKeyLit]
theorem lt_ne {a b : List UInt8} (h : a ≠ b) : lt a ≠ lt b := fun e => h (by injection e)
/-- A map's datum is the rules. -/
def RD (D : DataW Value) (rs : List (RuleF σ × Value)) : Prop :=
  Maps.IsMap D ∧ ∀ nm, (rs.find? (fun r => r.1.name == nm) = none → Maps.has D (lt nm) = false) ∧ ∀ r, rs.find? (fun r => r.1.name == nm) = some r → Maps.has D (lt nm) = true ∧ ∀ z, D.atKey (lt nm) z = .held (.agg #[.bool r.1.must, r.2])
theorem RD_nil : RD (.map []) ([] : List (RuleF σ × Value)) := ⟨Maps.isMap_empty, fun nm => ⟨fun _ => rfl, fun r h => by cases h⟩⟩
theorem RD_put {D : DataW Value} {rs : List (RuleF σ × Value)} (h : RD D rs) (r : RuleF σ × Value) (hn : rs.find? (fun x => x.1.name == r.1.name) = none) : RD (D.put (lt r.1.name) (.held (.agg #[.bool r.1.must, r.2]))) (rs ++ [r]) := by
  refine ⟨h.1.put _ _, fun nm => ?_⟩
  by_cases e : r.1.name = nm
  · subst e
    rw [List.find?_append, hn]
    refine ⟨fun hx => by simp at hx, fun r' hr' => ?_⟩
    simp at hr'
    subst hr'
    exact ⟨Maps.has_put_same h.1 (keyLit _) _, fun z => Maps.atKey_put_same h.1 (keyLit _) _ _⟩
  · have e2 : [r].find? (fun x => x.1.name == nm) = none := by simp [e]
    rw [List.find?_append, e2, Option.or_none]
    rw [Maps.has_put_other (lt_ne (Ne.symm e))]
    refine ⟨(h.2 nm).1, fun r' hr' => ⟨((h.2 nm).2 r' hr').1, fun z => ?_⟩⟩
    rw [Maps.atKey_put_other (lt_ne (Ne.symm e))]
    exact ((h.2 nm).2 r' hr').2 z
/-- A map's datum is the names that were met. -/
def MD (D : DataW Value) (met : List (List UInt8)) : Prop := Maps.IsMap D ∧ ∀ nm, D.atKey (lt nm) (.lit (.bool false)) = .lit (.bool (met.contains nm))
theorem MD_nil : MD (.map []) [] := ⟨Maps.isMap_empty, fun _ => rfl⟩
theorem MD_put {D : DataW Value} {met : List (List UInt8)} (h : MD D met) (a : List UInt8) : MD (D.put (lt a) (.lit (.bool true))) (met ++ [a]) := by
  refine ⟨h.1.put _ _, fun nm => ?_⟩
  by_cases e : nm = a
  · subst e
    rw [Maps.atKey_put_same h.1 (keyLit _)]
    simp
  · rw [Maps.atKey_put_other (lt_ne e), h.2 nm]
    simp [e]
end Go.Own.Hd
namespace Go.Proofs.YtkikcinpgbgbdaaDoor
open Go.RowKit Go.Own Go.Own.Hd Go.WideShapes
variable {σ : Type}
theorem key_str (s : ByteArray) (h : s.size ≤ maxLen) : keyOf Tryd.prog 9 (.string s) = some (lt s.data.toList) := by
  simp [keyOf, Tryd.underlying9, mapKey, h, lt]
theorem keyed_str : Maps.Keyed Tryd.prog 9 := Maps.string_keyed Tryd.underlying9
theorem zero_rule (w : World) : (zeroValue 56).run Tryd.prog w = .ok (.agg #[.bool false, .nilFunc]) w := by kernel_rfl
theorem zero_bool (w : World) : (zeroValue 4).run Tryd.prog w = .ok (.bool false) w := by kernel_rfl
/-- The block is the map of the rules. -/
def RM (w : World) (b n : Nat) (rs : List (RuleF σ × Value)) : Prop := ∃ D, w.ownsMap Tryd.prog 9 R6 b n D ∧ RD D rs
/-- The block is the map of the names that were met. -/
def MM (w : World) (b n : Nat) (met : List (List UInt8)) : Prop := ∃ D, w.ownsMap Tryd.prog 9 (plainElem Tryd.prog 4) b n D ∧ MD D met
theorem RM.kept {w w' : World} {b n : Nat} {rs : List (RuleF σ × Value)} {row : Option Nat} (h : RM w b n rs) (hg : w.grownBy w' row) (hne : some b ≠ row) : RM w' b n rs := by
  obtain ⟨D, h1, h3⟩ := h
  exact ⟨D, h1.kept hg hne, h3⟩
theorem MM.kept {w w' : World} {b n : Nat} {met : List (List UInt8)} {row : Option Nat} (h : MM w b n met) (hg : w.grownBy w' row) (hne : some b ≠ row) : MM w' b n met := by
  obtain ⟨D, h1, h3⟩ := h
  exact ⟨D, h1.kept hg hne, h3⟩
theorem MM.lt {w : World} {b n : Nat} {met : List (List UInt8)} (h : MM w b n met) : b < w.heap.size := by
  obtain ⟨D, h1, _⟩ := h
  exact h1.lt
theorem RM.lt {w : World} {b n : Nat} {rs : List (RuleF σ × Value)} (h : RM w b n rs) : b < w.heap.size := by
  obtain ⟨D, h1, _⟩ := h
  exact h1.lt
set_option maxRecDepth 100000 in
theorem run_rule {w : World} {b n : Nat} {rs : List (RuleF σ × Value)} (h : RM w b n rs) (s : ByteArray) (hs : s.size ≤ maxLen) :
    ∃ m fv, (Instr.lookup 58 (.map (some b)) (.string s) true).run Tryd.prog w = .ok (.tuple #[.agg #[.bool m, fv], .bool (rs.find? (fun r => r.1.name == s.data.toList)).isSome]) w ∧ (∀ r, rs.find? (fun r => r.1.name == s.data.toList) = some r → m = r.1.must ∧ fv = r.2) ∧ (rs.find? (fun r => r.1.name == s.data.toList) = none → m = false ∧ fv = .nilFunc) := by
  obtain ⟨D, h1, h3⟩ := h
  obtain ⟨v, ps, hrun, hv⟩ := h1.look_ok keyed_str Tryd.underlying58 (zero_rule w) (R6_mk false .nilFunc) (key_str s hs)
  obtain ⟨m, fv, rfl, hy⟩ := R6_inv hv
  refine ⟨m, fv, ?_, fun r hr => ?_, fun hn => ?_⟩
  · rw [hrun]
    have e : Maps.has D (lt s.data.toList) = (rs.find? (fun r => r.1.name == s.data.toList)).isSome := by
      cases hf : rs.find? (fun r => r.1.name == s.data.toList) with
      | none => rw [(h3.2 _).1 hf]; rfl
      | some r => rw [((h3.2 _).2 r hf).1]; rfl
    rw [e]
  · rw [((h3.2 _).2 r hr).2] at hy
    simp only [Prod.mk.injEq, DataW.held.injEq, Value.agg.injEq] at hy
    have := hy.1
    simp at this
    exact ⟨this.1.symm, this.2.symm⟩
  · rw [Maps.atKey_of_not_has ((h3.2 _).1 hn)] at hy
    simp only [Prod.mk.injEq, DataW.held.injEq, Value.agg.injEq] at hy
    have := hy.1
    simp at this
    exact ⟨this.1, this.2.symm⟩
set_option maxRecDepth 100000 in
theorem run_met {w : World} {b n : Nat} {met : List (List UInt8)} (h : MM w b n met) (s : ByteArray) (hs : s.size ≤ maxLen) :
    (Instr.lookup 67 (.map (some b)) (.string s) false).run Tryd.prog w = .ok (.bool (met.contains s.data.toList)) w := by
  obtain ⟨D, h1, h3⟩ := h
  obtain ⟨v, ps, hrun, hv⟩ := h1.lookup keyed_str Tryd.underlying67 (zero_bool w) (plainElem_bool Tryd.underlying4 false) (key_str s hs)
  rw [h3.2] at hv
  rw [hrun]
  have : v = .bool (met.contains s.data.toList) := by
    unfold plainElem at hv
    rw [Tryd.underlying4] at hv
    cases v <;> simp at hv
    rw [hv.1]; simp
  rw [this]
section
variable {ops : Array Oper} {rest : List Oper} {o : Oper} {a : Act} {Q : Exit → Act → World → Prop}
set_option maxRecDepth 100000 in
/-- A rule is laid into the map. -/
theorem wpList_lay_rule (w : World) (hg : o.guard = none) (m x v : Operand) (hop : o.op = Op.insert 58 m x v) (b n : Nat) (rs : List (RuleF σ × Value)) (hm : a.eval m = .map (some b)) (h : RM w b n rs) (hk9 : n < 9)
    (r : RuleF σ × Value) (s : ByteArray) (hsz : s.size ≤ maxLen) (hs : r.1.name = s.data.toList) (hx : a.eval x = .string s) (hv : a.eval v = .agg #[.bool r.1.must, r.2]) (hn : rs.find? (fun q => q.1.name == r.1.name) = none)
    (hK : ∀ w', RM w' b (n + 1) (rs ++ [r]) → w.grownBy w' (some b) → wpList Tryd.prog ops Q rest (a.put o.dst undef) w') : wpList Tryd.prog ops Q (o :: rest) a w := by
  refine wpList_plain hg fun K' hK' => ?_
  obtain ⟨D, h1, h3⟩ := h
  obtain ⟨w', hrun, r1, r2⟩ := h1.update keyed_str Tryd.underlying58 (by simp only [maxLen]; omega) (key_str s hsz) (R6_mk r.1.must r.2)
  unfold Oper.wp
  simp [execOp, hop, hm, hx, hv, hrun, Result.andThen]
  refine hK' _ _ (hK w' ⟨_, r1, ?_⟩ r2)
  rw [← hs]
  exact RD_put h3 r hn
set_option maxRecDepth 100000 in
/-- A name is laid into the map of those that were met. -/
theorem wpList_lay_met (w : World) (hg : o.guard = none) (m x v : Operand) (hop : o.op = Op.mapUpdate 67 m x v) (b n : Nat) (met : List (List UInt8)) (hm : a.eval m = .map (some b)) (h : MM w b n met) (hk9 : n < 1000000)
    (s : ByteArray) (hsz : s.size ≤ maxLen) (hx : a.eval x = .string s) (hv : a.eval v = .bool true)
    (hK : ∀ w', MM w' b (n + 1) (met ++ [s.data.toList]) → w.grownBy w' (some b) → wpList Tryd.prog ops Q rest (a.put o.dst undef) w') : wpList Tryd.prog ops Q (o :: rest) a w := by
  refine wpList_plain hg fun K' hK' => ?_
  obtain ⟨D, h1, h3⟩ := h
  obtain ⟨w', hrun, r1, r2⟩ := h1.update keyed_str Tryd.underlying67 (by simp only [maxLen]; omega) (key_str s hsz) (plainElem_bool Tryd.underlying4 true)
  unfold Oper.wp
  simp [execOp, hop, hm, hx, hv, hrun, Result.andThen]
  exact hK' _ _ (hK w' ⟨_, r1, MD_put h3 _⟩ r2)
end
end Go.Proofs.YtkikcinpgbgbdaaDoor
