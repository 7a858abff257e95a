/-
  Lists of headers: how they lie in memory; append, slices, sameness.
-/
import Derived.Test.YtkikcinpgbgbdaaDoorNa
import Derived.Laws.AppendOwn
import Derived.Maps.AppendAt
import Derived.Laws.OwnMore
import Derived.Deep.AppendLies
import Derived.OwnWalk
import Derived.WalkSpells
import Derived.Lib.LazyBuf
import Derived.Deep.RegionWith
namespace Go.Proofs.YtkikcinpgbgbdaaDoor
open Go.RowKit Go.Own Go.Own.Hd
def hcell (h : HdrV) : List Value := [.string h.name, .string h.value, .bool h.never]
def hcells (l : List HdrV) : List Value := l.flatMap hcell
theorem hcells_len (l : List HdrV) : (hcells l).length = l.length * 3 := by
  induction l with
  | nil => rfl
  | cons h l ih => simp [hcells, hcell] at ih ⊢; omega
theorem hcells_append (a b : List HdrV) : hcells (a ++ b) = hcells a ++ hcells b := by simp [hcells]
theorem hcells_one (l : List HdrV) : ∀ u ∈ hcells l, u.oneCell' = true := by
  intro u hu
  simp [hcells, hcell] at hu
  obtain ⟨h, _, h1⟩ := hu
  rcases h1 with rfl | rfl | rfl <;> rfl
theorem hcells_at (l : List HdrV) (j : Nat) (hj : j < l.length) : (hcells l)[j * 3]? = some (.string l[j].name) ∧ (hcells l)[j * 3 + 1]? = some (.string l[j].value) ∧ (hcells l)[j * 3 + 2]? = some (.bool l[j].never) := by
  induction l generalizing j with
  | nil => simp at hj
  | cons h l ih =>
    cases j with
    | zero => simp [hcells, hcell]
    | succ j =>
      have := ih j (by simpa using hj)
      have e : hcells (h :: l) = hcell h ++ hcells l := rfl
      rw [e]
      have h3 : (hcell h).length = 3 := rfl
      refine ⟨?_, ?_, ?_⟩
      · rw [List.getElem?_append_right (by rw [h3]; omega), h3, show (j + 1) * 3 - 3 = j * 3 by omega]; simpa using this.1
      · rw [List.getElem?_append_right (by rw [h3]; omega), h3, show (j + 1) * 3 + 1 - 3 = j * 3 + 1 by omega]; simpa using this.2.1
      · rw [List.getElem?_append_right (by rw [h3]; omega), h3, show (j + 1) * 3 + 2 - 3 = j * 3 + 2 by omega]; simpa using this.2.2
/-- The slice v owns the headers l, from block base on. -/
def Hw (w : World) (base : Nat) (v : Value) (l : List HdrV) : Prop := w.ownsRow base 26 3 v l.length (hcells l)
theorem Hw.form {w : World} {base : Nat} {v : Value} {l : List HdrV} (h : Hw w base v l) : ∃ A c, v = .slice A l.length c ∧ l.length ≤ c ∧ c ≤ maxLen := by
  rcases h.2 with ⟨rfl, h0⟩ | ⟨g, cap, cur, rfl, hb, hg, hn, hm, _⟩
  · exact ⟨none, 0, by rw [h0], by omega, by simp [maxLen]⟩
  · exact ⟨_, cap, rfl, hn, hm⟩
theorem Hw.base {w : World} {base base' : Nat} {v : Value} {l : List HdrV} (h : Hw w base v l) (hb : base' ≤ base) : Hw w base' v l := by
  refine ⟨h.1, ?_⟩
  rcases h.2 with h0 | ⟨g, cap, cur, e, hb', rest⟩
  · exact .inl h0
  · exact .inr ⟨g, cap, cur, e, Nat.le_trans hb hb', rest⟩
theorem Hw.lt {w : World} {base : Nat} {v : Value} {l : List HdrV} (h : Hw w base v l) : ∀ k, v.ownBlock = some k → base ≤ k ∧ k < w.heap.size := World.ownsRow.lt h
theorem Hw.grown {w w' : World} {base : Nat} {v : Value} {l : List HdrV} {row : Option Nat} (h : Hw w base v l) (hg : w.grownBy w' row) (hne : v.ownBlock = none ∨ v.ownBlock ≠ row) : Hw w' base v l := World.ownsRow.kept h hg hne
theorem own_or (v : Value) : v.ownBlock = none ∨ v.ownBlock ≠ none := by cases v.ownBlock <;> simp
theorem Hw.below {w w' : World} {base : Nat} {v : Value} {l : List HdrV} (h : Hw w base v l) (hb : Below w.heap.size w w') : Hw w' base v l := h.grown (grown_of_below hb none) (own_or v)
theorem Hw.nil (w : World) (base : Nat) : Hw w base (.slice none 0 0) [] := ⟨rfl, .inl ⟨rfl, rfl⟩⟩
theorem infoH : ∃ i, Tryd.prog.info? 26 = some i ∧ i.zero = some (.agg #[.string ⟨#[]⟩, .string ⟨#[]⟩, .bool false]) ∧ i.size = 3 ∧ i.bytes = 40 :=
  info_parts (show (Tryd.prog.info? 26).map (fun i => (i.zero, i.size, i.bytes)) = some (some (.agg #[.string ⟨#[]⟩, .string ⟨#[]⟩, .bool false]), 3, 40) by kernel_rfl)
/-- A slice of headers that came in. -/
def Hr (w : World) (A : Option Addr) (n : Nat) (l : List HdrV) : Prop :=
  l.length = n ∧ ∀ (j : Nat) u, (hcells l)[j]? = some u → ∃ ad, A = some ad ∧ ad.block < w.heap.size ∧ w.cell? (ad.add j) = some u
theorem Hr.below {w w' : World} {A : Option Addr} {n : Nat} {l : List HdrV} (h : Hr w A n l) (hb : Below w.heap.size w w') : Hr w' A n l :=
  ⟨h.1, fun j u hu => by
    obtain ⟨ad, e, h1, h2⟩ := h.2 j u hu
    exact ⟨ad, e, Nat.lt_of_lt_of_le h1 hb.size, (hb.cell (by rw [add_block]; exact h1)).trans h2⟩⟩
theorem Hw.hr {w : World} {base n c : Nat} {A : Option Addr} {l : List HdrV} (h : Hw w base (.slice A n c) l) : Hr w A n l := by
  have hn : l.length = n := by
    obtain ⟨A', c', e, _⟩ := h.form
    injection e with _ e _
    exact e.symm
  refine ⟨hn, fun j u hu => ?_⟩
  rcases h.2 with ⟨e, h0⟩ | ⟨g, cap, cur, e, _⟩
  · have : l = [] := List.eq_nil_of_length_eq_zero h0
    rw [this] at hu; simp [hcells] at hu
  · have e' := e
    injection e' with e1 _ _
    subst e1
    exact ⟨_, rfl, (World.ownsRow.lt h g rfl).2, World.ownsRow.cells h (g := g) rfl j u hu⟩
set_option maxRecDepth 100000 in
theorem run_app_h (w : World) (ty : TypeId) (A : Option Addr) (n c : Nat) (l : List HdrV) (hr : Hr w A n l) (hb : n ≤ 100000) :
    ∃ v' w', (Builtin.append_ #[22, 22] ty #[.slice none 0 0, .slice A n c]).run Tryd.prog w = .ok v' w' ∧ Hw w' w.heap.size v' l ∧ Below w.heap.size w w' := by
  obtain ⟨i, hi, hz, h1, h2⟩ := infoH
  rcases A with _ | ad
  · have hl : l = [] := by
      rcases l with _ | ⟨h, l⟩
      · rfl
      · obtain ⟨ad, e, _⟩ := hr.2 0 _ (show (hcells (h :: l))[0]? = some (.string h.name) from rfl)
        cases e
    subst hl
    obtain rfl : n = 0 := by have := hr.1; simpa using this.symm
    refine ⟨.slice none 0 0, w, ?_, Hw.nil _ _, Below.refl _ _⟩
    simp [Builtin.append_, run_underlying Tryd.underlying22, sizeOf, typeInfo, hi, Builtin.lenOf, Builtin.firstCells]
  · obtain ⟨v', w', hrun, r1, r2, _, r4⟩ := run_append_own_at (P := Tryd.prog) w w.heap.size 22 ty 26 i _ 3 40 Tryd.underlying22 hi hz h1 h2 rfl (by decide) (.slice none 0 0) 0 [] (World.ownsRow_nil _ _ _ _) ad n c (hcells l) (by rw [hcells_len, hr.1]) (fun j u hu => by
      obtain ⟨ad', e, _, h⟩ := hr.2 j u hu
      obtain rfl := Option.some.inj e
      exact h) (hcells_one l) (by simp only [maxLen]; omega) (by omega) (Nat.le_refl _)
    refine ⟨v', w', hrun, ?_, (Below.refl _ _).grown r2 (Nat.le_refl _) (fun k e => by simp [Value.ownBlock] at e)⟩
    unfold Hw
    rw [hr.1]
    rw [Nat.zero_add, List.nil_append] at r1
    exact r1
section
variable {ops : Array Oper} {rest : List Oper} {o : Oper} {a : Act} {Q : Exit → Act → World → Prop}
theorem wpList_app_h (w : World) (hgd : o.guard = none) (x : Operand) (ho : o.op = .call { callee := .builtin .append, args := #[.const (.slice none 0 0), x], argTypes := #[22, 22] })
    (A : Option Addr) (n c : Nat) (l : List HdrV) (hx : a.eval x = .slice A n c) (hr : Hr w A n l) (hb : n ≤ 100000)
    (h : ∀ A' c' w', Hw w' w.heap.size (.slice A' n c') l → Below w.heap.size w w' → wpList Tryd.prog ops Q rest (a.put o.dst (.slice A' n c')) w') : wpList Tryd.prog ops Q (o :: rest) a w := by
  refine wpList_plain hgd fun K hK => ?_
  obtain ⟨v', w', hrun, r1, r2⟩ := run_app_h w o.type A n c l hr hb
  obtain ⟨A', c', rfl, _⟩ := r1.form
  rw [hr.1] at hrun r1
  unfold Oper.wp execOp
  have e : a.eval (.const (.slice none 0 0)) = .slice none 0 0 := rfl
  simp only [ho, resolve, invoke, builtin, Sem.run_bind, Sem.run_pure, Result.andThen_ok, List.map_toArray, List.map_cons, List.map_nil, e, hx, hrun]
  exact hK _ _ (h A' c' w' r1 r2)
end
theorem run_app_hg (w : World) (ty : TypeId) (base : Nat) (v : Value) (l0 : List HdrV) (hown : Hw w base v l0) (A : Option Addr) (n c : Nat) (l : List HdrV) (hr : Hr w A n l) (hb : l0.length + n ≤ 1000) (hbase : base ≤ w.heap.size) :
    ∃ v' w', (Builtin.append_ #[22, 22] ty #[v, .slice A n c]).run Tryd.prog w = .ok v' w' ∧ Hw w' base v' (l0 ++ l) ∧ w.grownBy w' v.ownBlock ∧ (v'.ownBlock = v.ownBlock ∨ v'.ownBlock = some w.heap.size) := by
  obtain ⟨i, hi, hz, h1, h2⟩ := infoH
  rcases A with _ | ad
  · have hl : l = [] := by
      rcases l with _ | ⟨h, l⟩
      · rfl
      · obtain ⟨ad, e, _⟩ := hr.2 0 _ (show (hcells (h :: l))[0]? = some (.string h.name) from rfl)
        cases e
    subst hl
    obtain rfl : n = 0 := by have := hr.1; simpa using this.symm
    refine ⟨v, w, ?_, by simpa using hown, World.grownBy.refl w _, .inl rfl⟩
    rcases hown.2 with ⟨rfl, h0⟩ | ⟨g, cap, cur, rfl, _, _, hnc, _⟩
    · simp [Builtin.append_, run_underlying Tryd.underlying22, sizeOf, typeInfo, hi, Builtin.lenOf, Builtin.firstCells]
    · simp [Builtin.append_, run_underlying Tryd.underlying22, sizeOf, typeInfo, hi, Builtin.lenOf, Builtin.firstCells, hnc, storeCells]
  · obtain ⟨v', w', hrun, r1, r2, _, r4⟩ := run_append_own_at (P := Tryd.prog) w base 22 ty 26 i _ 3 40 Tryd.underlying22 hi hz h1 h2 rfl (by decide) v l0.length (hcells l0) hown ad n c (hcells l) (by rw [hcells_len, hr.1]) (fun j u hu => by
      obtain ⟨ad', e, _, h⟩ := hr.2 j u hu
      obtain rfl := Option.some.inj e
      exact h) (hcells_one l) (by simp only [maxLen]; omega) (by omega) hbase
    refine ⟨v', w', hrun, ?_, r2, r4⟩
    unfold Hw
    rw [hcells_append, List.length_append, hr.1]
    exact r1
section
variable {ops : Array Oper} {rest : List Oper} {o : Oper} {a : Act} {Q : Exit → Act → World → Prop}
theorem wpList_app_hg (w : World) (hgd : o.guard = none) (s x : Operand) (ho : o.op = .call { callee := .builtin .append, args := #[s, x], argTypes := #[22, 22] })
    (base : Nat) (v : Value) (l0 : List HdrV) (hs : a.eval s = v) (hown : Hw w base v l0) (A : Option Addr) (n c : Nat) (l : List HdrV) (hx : a.eval x = .slice A n c) (hr : Hr w A n l) (hb : l0.length + n ≤ 1000) (hbase : base ≤ w.heap.size)
    (h : ∀ v' w', Hw w' base v' (l0 ++ l) → w.grownBy w' v.ownBlock → (v'.ownBlock = v.ownBlock ∨ v'.ownBlock = some w.heap.size) → wpList Tryd.prog ops Q rest (a.put o.dst v') w') : wpList Tryd.prog ops Q (o :: rest) a w := by
  refine wpList_plain hgd fun K hK => ?_
  obtain ⟨v', w', hrun, r1, r2, r3⟩ := run_app_hg w o.type base v l0 hown A n c l hr hb hbase
  unfold Oper.wp execOp
  simp only [ho, resolve, invoke, builtin, Sem.run_bind, Sem.run_pure, Result.andThen_ok, List.map_toArray, List.map_cons, List.map_nil, hs, hx, hrun]
  exact hK _ _ (h v' w' r1 r2 r3)
end
theorem Hr.at_ {w : World} {A : Option Addr} {n k : Nat} {l : List HdrV} (h : Hr w A n l) (hk : k < n) : ∃ ad, A = some ad ∧ w.cell? (ad.add (k * 3)) = some (.string (l.getD k ⟨⟨#[]⟩, ⟨#[]⟩, false⟩).name) ∧ w.cell? ⟨(ad.add (k * 3)).block, (ad.add (k * 3)).off + 1, none⟩ = some (.string (l.getD k ⟨⟨#[]⟩, ⟨#[]⟩, false⟩).value) ∧
    w.cell? ⟨(ad.add (k * 3)).block, (ad.add (k * 3)).off + 2, none⟩ = some (.bool (l.getD k ⟨⟨#[]⟩, ⟨#[]⟩, false⟩).never) := by
  have hl := h.1
  have hc := hcells_at l k (by omega)
  have e : l.getD k ⟨⟨#[]⟩, ⟨#[]⟩, false⟩ = l[k]'(by omega) := by simp [List.getD, show k < l.length by omega]
  rw [e]
  obtain ⟨ad, e0, _, h0⟩ := h.2 _ _ hc.1
  obtain ⟨ad1, e1, _, h1⟩ := h.2 _ _ hc.2.1
  obtain ⟨ad2, e2, _, h2⟩ := h.2 _ _ hc.2.2
  obtain rfl := Option.some.inj (e0.symm.trans e1)
  obtain rfl := Option.some.inj (e0.symm.trans e2)
  rw [← add_two] at h1 h2
  exact ⟨ad, e0, h0, h1, h2⟩
theorem hw_put {W : World} {p : Addr} {v : Value} {B n c : Nat} {A : Option Addr} {l : List HdrV} (hp : p.block < B) (h : Hw W B (.slice A n c) l) : Hw (W.setCell p v) B (.slice A n c) l := h.grown (row := some p.block) (by
  refine ⟨rfl, rfl, rfl, by simp [World.setCell], fun i _ hne => Below.heap_setCell W p v i (fun e => hne (by rw [e]))⟩) (by
  rcases ho : (Value.slice A n c).ownBlock with _ | b
  · exact .inl rfl
  · exact .inr (fun e => by have := (h.lt b ho).1; injection e with e; omega))
end Go.Proofs.YtkikcinpgbgbdaaDoor
