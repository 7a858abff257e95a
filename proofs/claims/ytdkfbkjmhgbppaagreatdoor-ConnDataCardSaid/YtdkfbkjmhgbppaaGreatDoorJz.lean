/-
  Zero bytes, made. No program.
  append(s, make([]byte, n)...): bytes of one's own, n zeros more. No program.
-/
import Derived.Test.YtdkfbkjmhgbppaaGreatDoorJt
import Derived.Deep.OwnRows
import Derived.Test.YtdkfbkjmhgbppaaGreatDoorJa
set_option linter.unusedSimpArgs false
set_option linter.unusedVariables false
section
namespace Go.Own.Cm
open Go Go.RowKit Go.Own
theorem Ew.lit_any {α : Type} {k : Nat} (f : α → Array Value) (e : TypeId) (hk : ∀ x, (f x).size = k) (w : World) (l : List α) (hl : l.length ≤ 1000000) : Ew f e k (w.alloc (.cells (flat f l).toArray e)) w.heap.size (.slice (some ⟨w.heap.size, 0, none⟩) l.length l.length) l :=
  World.ownsRow_lit w (flat f l).toArray l.length (Nat.le_refl _) (by simp only [maxLen]; omega) (by rw [List.size_toArray, flat_len hk])
end Go.Own.Cm
namespace Go.Own
open Go.RowKit
theorem madeCells_zero (n : Nat) : madeCells #[.int .u8 0] n = ((List.replicate n (0 : UInt8)).map bv).toArray := by
  apply Array.ext
  · simp [size_madeCells]
  · intro i h1 h2
    simp [madeCells, Nat.mod_one, bv]
theorem Ow.lit_any (w : World) (e : TypeId) (l : List UInt8) (hl : l.length ≤ 1000000) : Ow (w.alloc (.cells (l.map bv).toArray e)) w.heap.size e (.slice (some ⟨w.heap.size, 0, none⟩) l.length l.length) l.length l := by
  have h := Cm.Ew.lit_any (fun b : UInt8 => #[bv b]) e (k := 1) (fun _ => rfl) w l hl
  have e2 : ∀ l : List UInt8, Cm.flat (fun b : UInt8 => #[bv b]) l = l.map bv := by
    intro l
    induction l with
    | nil => rfl
    | cons x l ih => rw [show Cm.flat (fun b : UInt8 => #[bv b]) (x :: l) = bv x :: Cm.flat (fun b : UInt8 => #[bv b]) l from rfl, ih]; rfl
  unfold Cm.Ew at h
  rw [e2] at h
  exact h
/-- make([]byte, n) as one equation. -/
theorem mk_zeros {P : Program} {t e : TypeId} (hP : ByteP P t e) (n : Nat) (hn : n ≤ 1000000) :
    (∀ W : World, (Instr.makeSlice t (.int .i64 (n : Int)) (.int .i64 (n : Int))).run P W = .ok (.slice (some ⟨W.heap.size, 0, none⟩) n n) (W.alloc (.cells ((List.replicate n (0 : UInt8)).map bv).toArray e))) ∧
    ∀ W : World, Ow (W.alloc (.cells ((List.replicate n (0 : UInt8)).map bv).toArray e)) W.heap.size e (.slice (some ⟨W.heap.size, 0, none⟩) n n) n (List.replicate n 0) := by
  obtain ⟨i, hi, hz, h1, h2⟩ := hP.info
  refine ⟨fun W => ?_, fun W => ?_⟩
  · rw [← madeCells_zero]
    exact run_make_row t e i (.int .u8 0) hP.slice hi hz h1 rfl .i64 .i64 n (by rw [h2]; omega) (by omega) W
  · have h := Ow.lit_any W e (List.replicate n 0) (by simpa using hn)
    simpa using h
/-- The same, in the walk's own words. -/
theorem mk_zeros2 {P : Program} {t e : TypeId} (hP : ByteP P t e) (n : Nat) (hn : n ≤ 1000000) :
    (∀ W : World, (Instr.makeSlice t (.int .i64 (n : Int)) (.int .i64 (n : Int))).run P W = .ok (.slice (some ⟨W.heap.size, 0, none⟩) n n) (W.alloc (.cells (Array.replicate n (bv 0)) e))) ∧
    ∀ W : World, Ow (W.alloc (.cells (Array.replicate n (bv 0)) e)) W.heap.size e (.slice (some ⟨W.heap.size, 0, none⟩) n n) n (List.replicate n 0) := by
  have h := mk_zeros hP n hn
  have e2 : ((List.replicate n (0 : UInt8)).map bv).toArray = Array.replicate n (bv 0) := by simp
  rw [e2] at h
  exact h
end Go.Own
end

section
namespace Go.Own
open Go Go.RowKit
theorem zeroCells_u8 (n : Nat) : Builtin.zeroCells (Value.int .u8 0).cells n = ((List.replicate n (0 : UInt8)).map bv).toArray := by
  apply Array.ext
  · rw [size_zeroCells]
    show n * 1 = _
    simp
  · intro i h1 h2
    simp [Builtin.zeroCells, Value.cells, Nat.mod_one, bv]
section
variable {P : Program} {t e ti : TypeId}
theorem zeros_none (hP : ByteP P t e) (hti : P.underlying ti = some (.int .i64)) (W : World) (ty : TypeId) (A0 : Option Addr) (n c : Nat) (hle : n ≤ c) :
    (Builtin.append_ #[t, ti] ty #[.slice A0 n c, .int .i64 0]).run P W = .ok (.slice A0 n c) W := by
  obtain ⟨i, hi, hz, h1, h2⟩ := hP.info
  have hw : IntKind.i64.wrap 0 = 0 := by decide
  rcases A0 with _ | a <;> simp [Builtin.append_, run_underlying hP.slice, run_underlying hti, sizeOf, typeInfo, hi, h1, h2, asInt, asIntOf, hle, hw, Result.andThen, storeCells]
theorem zeros_room (hP : ByteP P t e) (hti : P.underlying ti = some (.int .i64)) (w : World) (ty : TypeId) (b off sLen sCap n : Nat) (hn : 0 < n ∧ n ≤ 1000000) (hroom : sLen + n ≤ sCap)
    (hc : ∀ j, j < n → (w.cell? ⟨b, off + sLen + j, none⟩).isSome = true) (hf : ∀ j, j < n → w.frozen? ⟨b, off + sLen + j, none⟩ = false) :
    (Builtin.append_ #[t, ti] ty #[.slice (some ⟨b, off, none⟩) sLen sCap, .int .i64 (n : Int)]).run P w = .ok (.slice (some ⟨b, off, none⟩) (sLen + n) sCap) (w.setCells b (off + sLen) ((List.replicate n (0 : UInt8)).map bv)) := by
  obtain ⟨i, hi, hz, h1, h2⟩ := hP.info
  have hl : ((List.replicate n (0 : UInt8)).map bv).length = n := by simp
  have hst := run_storeCells_cells (P := P) b (off + sLen) ((List.replicate n (0 : UInt8)).map bv) 0 w (by simpa using hc) (by simpa using hf) bv_one
  simp only [Nat.add_zero] at hst
  have hw : IntKind.i64.wrap (n : Int) = (n : Int) := by rw [IntKind.wrap_i64]; omega
  have hneg : ¬ (n : Int) < 0 := by omega
  have hbig : ¬ (281474976710656 : Int) < (n : Int) := by omega
  have hn0 : ¬ n = 0 := by omega
  have hzc := zeroCells_u8 n
  simp [Builtin.append_, run_underlying hP.slice, run_underlying hti, sizeOf, typeInfo, zeroValue, hi, hz, h1, h2, asInt, asIntOf, hw, hneg, hbig, hn0, hroom, Result.andThen, hzc, Addr.add_lit]
  rw [List.map_replicate] at hst
  rw [hst]
theorem zeros_grow (hP : ByteP P t e) (hti : P.underlying ti = some (.int .i64)) (w : World) (ty : TypeId) (base : Option Addr) (sLen sCap n : Nat) (h0 : 0 < n) (hn : n ≤ 1000000) (olds : List Value)
    (hold : (Builtin.firstCells 1 sLen (.slice base sLen sCap)).run P w.drew = .ok olds.toArray w.drew) (hg : sCap < sLen + n) (hb : sLen + n ≤ 140737488355328) :
    (Builtin.append_ #[t, ti] ty #[.slice base sLen sCap, .int .i64 (n : Int)]).run P w =
      .ok (.slice (some ⟨w.heap.size, 0, none⟩) (sLen + n) (grownCap w (sLen + n) sCap e))
        (w.drew.alloc (.cells ((olds ++ (List.replicate n (0 : UInt8)).map bv).toArray ++ Builtin.zeroCells (Value.int .u8 0).cells (grownCap w (sLen + n) sCap e - (sLen + n))) e)) := by
  obtain ⟨i, hi, hz, h1, h2⟩ := hP.info
  have hw : IntKind.i64.wrap (n : Int) = (n : Int) := by rw [IntKind.wrap_i64]; omega
  have hneg : ¬ (n : Int) < 0 := by omega
  have hbig : ¬ (281474976710656 : Int) < (n : Int) := by omega
  have hn0 : ¬ n = 0 := by omega
  have hzc := zeroCells_u8 n
  have hnr : ¬ (sLen + n ≤ sCap) := by omega
  have h63' : ¬ (9223372036854775807 < ((sLen : Int) + (n : Int))) := by omega
  have h48 := growslice_fits (need := sLen + n) (old := sCap) (bytes := 1) hg (by omega)
  have h48' : ¬ (281474976710656 < Builtin.nextslicecap (sLen + n) sCap) := by omega
  simp [Builtin.append_, run_underlying hP.slice, run_underlying hti, sizeOf, typeInfo, zeroValue, hi, hz, h1, h2, asInt, asIntOf, hw, hneg, hbig, hn0, hnr, h63', h48', Question.forced, Result.andThen, hzc, hold, newRow, grownCap]
  refine congrArg (fun x => w.drew.alloc (Obj.cells x e)) ?_
  apply Array.ext'
  simp [List.append_assoc]
end
theorem run_app_zeros {P : Program} {t e ti : TypeId} (hP : ByteP P t e) (hti : P.underlying ti = some (.int .i64)) (w : World) (ty : TypeId) (own : Nat → Prop) (v : Value) (l : List UInt8) (h : Oz w own v l) (m : Nat) (hm : m ≤ 1000000) (hb : l.length + m ≤ 140737488355328) :
    ∃ v' w' row, (Builtin.append_ #[t, ti] ty #[v, .int .i64 (m : Int)]).run P w = .ok v' w' ∧ Oz w' (fun g => own g ∨ (row = none ∧ g = w.heap.size)) v' (l ++ List.replicate m 0) ∧ w.grownBy w' row ∧ (∀ g, row = some g → own g ∧ g < w.heap.size) := by
  obtain ⟨i, hi, hz, h1, h2⟩ := hP.info
  obtain ⟨A0, c0, rfl, hle, hmx, ho⟩ := h
  rcases Nat.eq_zero_or_pos m with hm0 | hm0
  · subst hm0
    exact ⟨_, w, none, zeros_none hP hti w ty A0 l.length c0 hle, ⟨A0, c0, by simp, by simpa using hle, hmx, fun hc => by
      obtain ⟨g, off, e1, e2, e3, e4, e5⟩ := ho hc
      exact ⟨g, off, e1, .inl e2, e3, fun j hl hj => e4 j (by simpa using hl) hj, fun j hj => by simpa using e5 j (by simpa using hj)⟩⟩, World.grownBy.refl w _, fun g e => by cases e⟩
  obtain ⟨l2, hl2e⟩ : ∃ x, List.replicate m (0 : UInt8) = x := ⟨_, rfl⟩
  have hl2 : l2.length = m := by rw [← hl2e]; simp
  rw [hl2e]
  have hmx' : maxLen = 9223372036854775807 := rfl
  have hnl : (l2.map bv).length = m := by simp [hl2]
  by_cases hroom : l.length + m ≤ c0
  · have hdummy := True.intro
    · obtain ⟨g, off, rfl, hg, hlt, hsp, hcl⟩ := ho (by omega)
      have hsome : ∀ j, j < (l2.map bv).length → (w.cell? ⟨g, off + l.length * i.size + j, none⟩).isSome = true := fun j hj => by
        rw [h1, Nat.mul_one, Nat.add_assoc]; exact (hsp (l.length + j) (by omega) (by omega)).1
      have hrun := zeros_room hP hti w ty g off l.length c0 m ⟨hm0, hm⟩ hroom (fun j hj => by rw [Nat.add_assoc]; exact (hsp (l.length + j) (by omega) (by omega)).1) (fun j hj => by rw [Nat.add_assoc]; exact (hsp (l.length + j) (by omega) (by omega)).2)
      rw [hl2e, show off + l.length = off + l.length * i.size by rw [h1, Nat.mul_one]] at hrun
      refine ⟨_, _, some g, hrun, ⟨_, c0, by rw [List.length_append, hl2], by rw [List.length_append, hl2]; exact hroom, hmx, fun _ => ⟨g, off, rfl, .inl hg, ?_, fun j hl hj => ⟨?_, ?_⟩, fun j hj => ?_⟩⟩, grown_setCells w g _ _, fun g' e => by injection e with e; subst e; exact ⟨hg, hlt⟩⟩
      · rw [size_setCells]; exact hlt
      · rw [List.length_append, hl2] at hl
        rw [World.cell?_setCells_out g _ _ _ _ (fun _ _ => by rw [h1, hnl]; show off + j < off + l.length * 1 ∨ off + l.length * 1 + m ≤ off + j; omega)]
        exact (hsp j (by omega) hj).1
      · rw [List.length_append, hl2] at hl
        rw [World.frozen?_setCells]; exact (hsp j (by omega) hj).2
      · rw [List.length_append, hl2] at hj
        by_cases hin : l.length ≤ j
        · have := World.cell?_setCells_in g (l2.map bv) (off + l.length * i.size) w hsome (j - l.length) (by omega)
          rw [h1, Nat.mul_one, show off + l.length + (j - l.length) = off + j by omega] at this
          rw [h1, Nat.mul_one, this, List.getElem_map, List.getD_eq_getElem?_getD, List.getElem?_append_right hin, List.getElem?_eq_getElem (by omega)]
          rfl
        · rw [World.cell?_setCells_out g _ _ _ _ (fun _ _ => by rw [h1, hnl]; show off + j < off + l.length * 1 ∨ off + l.length * 1 + m ≤ off + j; omega), hcl j (by omega), List.getD_eq_getElem?_getD, List.getD_eq_getElem?_getD, List.getElem?_append_left (by omega)]
  · have hold : (Builtin.firstCells i.size l.length (.slice A0 l.length c0)).run P w.drew = .ok (l.map bv).toArray w.drew := by
      rcases Nat.eq_zero_or_pos l.length with h0 | h0
      · have e0 : l = [] := List.eq_nil_of_length_eq_zero h0
        subst e0
        rcases A0 with _ | a0
        · exact run_firstCells_none w.drew i.size 0 0 c0
        · exact run_firstCells_some w.drew i.size 0 a0 0 c0 [] (by simp) (by intro _ _ h'; simp at h')
      · obtain ⟨g, off, rfl, _, _, _, hcl⟩ := ho (by omega)
        refine run_firstCells_some w.drew i.size l.length ⟨g, off, none⟩ l.length c0 _ (by simp [h1]) (fun j u hu => ?_)
        have hj : j < l.length := by have := (List.getElem?_eq_some_iff.1 hu).1; simpa using this
        rw [Addr.add_lit]
        refine (hcl j hj).trans ?_
        rw [← hu, List.getElem?_map, List.getD_eq_getElem?_getD, List.getElem?_eq_getElem hj]
        rfl
    have hrun := zeros_grow hP hti w ty A0 l.length c0 m hm0 hm (l.map bv) (by rw [h1] at hold; exact hold) (by omega) hb
    rw [hl2e] at hrun
    have hge := grownCap_ge w (l.length + m) c0 e
    have hcm := grownCap_le_maxLen w (l.length + m) c0 e (by omega)
    refine ⟨_, _, none, hrun, ⟨_, grownCap w (l.length + m) c0 e, by rw [List.length_append, hl2], by rw [List.length_append, hl2]; exact hge, hcm, fun _ => ⟨w.heap.size, 0, rfl, .inr ⟨rfl, rfl⟩, ?_, fun j _ hj => ⟨?_, ?_⟩, fun j hj => ?_⟩⟩, ⟨rfl, rfl, rfl, by simp, fun k hk _ => Below.heap_alloc w.drew _ k hk⟩, fun g e => by cases e⟩
    · simp
    · have hsz : ((l.map bv ++ l2.map bv).toArray ++ Builtin.zeroCells (Value.int .u8 0).cells (grownCap w (l.length + m) c0 e - (l.length + m))).size = grownCap w (l.length + m) c0 e := by
        rw [Array.size_append, List.size_toArray, List.length_append, List.length_map, hnl, size_zeroCells]
        show l.length + m + (grownCap w (l.length + m) c0 e - (l.length + m)) * 1 = _
        omega
      have e1 := World.cell?_alloc_new w.drew ((l.map bv ++ l2.map bv).toArray ++ Builtin.zeroCells (Value.int .u8 0).cells (grownCap w (l.length + m) c0 e - (l.length + m))) e (0 + j)
      refine (congrArg Option.isSome e1).trans ?_
      rw [Array.getElem?_eq_getElem (by rw [hsz]; omega)]
      rfl
    · exact World.frozen?_alloc_new w.drew _ _ _
    · rw [List.length_append, hl2] at hj
      have e1 := World.cell?_alloc_new w.drew ((l.map bv ++ l2.map bv).toArray ++ Builtin.zeroCells (Value.int .u8 0).cells (grownCap w (l.length + m) c0 e - (l.length + m))) e (0 + j)
      refine e1.trans ?_
      rw [Array.getElem?_append_left (by simp [hl2]; omega), ← List.map_append, List.getElem?_toArray, List.getElem?_map, Nat.zero_add, List.getD_eq_getElem?_getD, List.getElem?_eq_getElem (by rw [List.length_append, hl2]; exact hj)]
      rfl
section
variable {P : Program} {ops : Array Oper} {rest : List Oper} {o : Oper} {a : Act} {Q : Exit → Act → World → Prop} {t e ti : TypeId}
theorem wpList_app_zeros (hP : ByteP P t e) (hti : P.underlying ti = some (.int .i64)) (w : World) (hgd : o.guard = none) (s x : Operand) (ho : o.op = .call { callee := .builtin .append, args := #[s, x], argTypes := #[t, ti] })
    (own : Nat → Prop) (v : Value) (l : List UInt8) (hs : a.eval s = v) (h : Oz w own v l) (m : Nat) (hx : a.eval x = .int .i64 (m : Int)) (hm : m ≤ 1000000) (hb : l.length + m ≤ 140737488355328)
    (hK : ∀ A' c' w' row, Oz w' (fun g => own g ∨ (row = none ∧ g = w.heap.size)) (.slice A' (l.length + m) c') (l ++ List.replicate m 0) → w.grownBy w' row → (∀ g, row = some g → own g ∧ g < w.heap.size) → wpList P ops Q rest (a.put o.dst (.slice A' (l.length + m) c')) w') : wpList P ops Q (o :: rest) a w := by
  refine wpList_plain hgd fun K hK' => ?_
  obtain ⟨v', w', row, hrun, r1, r2, r3⟩ := run_app_zeros hP hti w o.type own v l h m hm hb
  obtain ⟨A', c', rfl, _, _⟩ := r1.form
  rw [List.length_append, List.length_replicate] at hrun r1
  unfold Oper.wp execOp
  simp only [ho, resolve, invoke, builtin, Sem.run_bind, Sem.run_pure, Result.andThen_ok, List.map_toArray, List.map_cons, List.map_nil, hs, hx, hrun]
  exact hK' _ _ (hK A' c' w' row r1 r2 r3)
end
end Go.Own
end
