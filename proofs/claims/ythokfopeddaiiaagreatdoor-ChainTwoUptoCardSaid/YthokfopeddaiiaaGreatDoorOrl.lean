/-
  ChainOrder: what its walk wants of texts, lists of rules, lists of headers.
-/
import Derived.Test.YthokfopeddaiiaaGreatDoorOrd
namespace Go.Proofs.YthokfopeddaiiaaGreatDoor
open Go.RowKit Go.Own Go.Own.Fn Go.Shelf
def signsS : ByteArray := ⟨#[48, 49, 50, 51, 52, 53, 54, 55, 56, 57, 97, 98, 99, 100, 101, 102, 103, 104, 105, 106, 107, 108, 109, 110, 111, 112, 113, 114, 115, 116, 117, 118, 119, 120, 121, 122]⟩
theorem sign_cut : ∀ k, k < 36 → (signsS.extract k (k + 1)).data.toList = [signs36.getD k 0] := by decide +kernel
theorem sign_cut2 (k : Nat) (hk : k < 36) : signsS.extract k (k + 1) = ⟨#[signs36.getD k 0]⟩ := by
  have h := sign_cut k hk
  generalize signs36.getD k 0 = c at h ⊢
  generalize signsS.extract k (k + 1) = b at h ⊢
  obtain ⟨⟨l⟩⟩ := b
  simp only at h
  rw [h]
theorem run_sign (k : Nat) (hk : k < 36) (W : World) : (Instr.slice 9 (.string signsS) (some (.int .i64 (k : Int))) (some (.int .i64 ((k : Int) + 1))) none).run Tryz.prog W = .ok (.string ⟨#[signs36.getD k 0]⟩) W := by
  rw [← sign_cut2 k hk]
  have hs : signsS.size = 36 := rfl
  have h1 : (k : Int) + 1 ≤ 36 := by omega
  simp [Instr.slice, run_underlying Tryz.underlying9, Instr.sliceBounds, run_sliceBound, Instr.sliceBound, asIntOf, Result.andThen, hs, h1, show (0 : Int) ≤ (k : Int) + 1 by omega]



theorem and31 (n : Int) : ∃ N : Nat, N < 32 ∧ bits .and .i64 n 31 = (N : Int) := by
  refine ⟨(BitVec.ofInt 64 n &&& BitVec.ofInt 64 31).toNat, ?_, ?_⟩
  · rw [BitVec.toNat_and]
    exact Nat.lt_of_le_of_lt Nat.and_le_right (by decide)
  · show IntKind.i64.wrap ((BitVec.ofInt 64 n &&& BitVec.ofInt 64 31).toNat : Int) = _
    have : (BitVec.ofInt 64 n &&& BitVec.ofInt 64 31).toNat < 32 := by
      rw [BitVec.toNat_and]
      exact Nat.lt_of_le_of_lt Nat.and_le_right (by decide)
    rw [IntKind.wrap_i64]
    omega
theorem run_app_hg (w : World) (ty : TypeId) (base : Nat) (v : Value) (l0 : List HdrV) (hown : Hw w base v l0) (A : Option Addr) (n c : Nat) (l : List HdrV) (hr : Hr w A n l) (hb : l0.length + n ≤ 1000) (hbase : base ≤ w.heap.size) :
    ∃ v' w', (Builtin.append_ #[23, 23] ty #[v, .slice A n c]).run Tryz.prog w = .ok v' w' ∧ Hw w' base v' (l0 ++ l) ∧ w.grownBy w' v.ownBlock ∧ (v'.ownBlock = v.ownBlock ∨ v'.ownBlock = some w.heap.size) := by
  obtain ⟨i, hi, hz, h1, h2⟩ := infoH
  rcases A with _ | ad
  · have hl : l = [] := by
      rcases l with _ | ⟨h, l⟩
      · rfl
      · obtain ⟨ad, e, _⟩ := hr.2 0 _ (show (hcells (h :: l))[0]? = some (.string h.name) from rfl)
        cases e
    subst hl
    obtain rfl : n = 0 := by have := hr.1; simpa using this.symm
    refine ⟨v, w, ?_, by simpa using hown, World.grownBy.refl w _, .inl rfl⟩
    rcases hown.2 with ⟨rfl, h0⟩ | ⟨g, cap, cur, rfl, _, _, hnc, _⟩
    · simp [Builtin.append_, run_underlying Tryz.underlying23, sizeOf, typeInfo, hi, Builtin.lenOf, Builtin.firstCells]
    · simp [Builtin.append_, run_underlying Tryz.underlying23, sizeOf, typeInfo, hi, Builtin.lenOf, Builtin.firstCells, hnc, storeCells]
  · obtain ⟨v', w', hrun, r1, r2, _, r4⟩ := run_append_own_at (P := Tryz.prog) w base 23 ty 34 i _ 3 40 Tryz.underlying23 hi hz h1 h2 rfl (by decide) v l0.length (hcells l0) hown ad n c (hcells l) (by rw [hcells_len, hr.1]) (fun j u hu => by
      obtain ⟨ad', e, _, h⟩ := hr.2 j u hu
      obtain rfl := Option.some.inj e
      exact h) (hcells_one l) (by simp only [maxLen]; omega) (by omega) hbase
    refine ⟨v', w', hrun, ?_, r2, r4⟩
    unfold Hw
    rw [hcells_append, List.length_append, hr.1]
    exact r1
section
variable {ops : Array Oper} {rest : List Oper} {o : Oper} {a : Act} {Q : Exit → Act → World → Prop}
theorem wpList_app_hg (w : World) (hgd : o.guard = none) (s x : Operand) (ho : o.op = .call { callee := .builtin .append, args := #[s, x], argTypes := #[23, 23] })
    (base : Nat) (v : Value) (l0 : List HdrV) (hs : a.eval s = v) (hown : Hw w base v l0) (A : Option Addr) (n c : Nat) (l : List HdrV) (hx : a.eval x = .slice A n c) (hr : Hr w A n l) (hb : l0.length + n ≤ 1000) (hbase : base ≤ w.heap.size)
    (h : ∀ v' w', Hw w' base v' (l0 ++ l) → w.grownBy w' v.ownBlock → (v'.ownBlock = v.ownBlock ∨ v'.ownBlock = some w.heap.size) → wpList Tryz.prog ops Q rest (a.put o.dst v') w') : wpList Tryz.prog ops Q (o :: rest) a w := by
  refine wpList_plain hgd fun K hK => ?_
  obtain ⟨v', w', hrun, r1, r2, r3⟩ := run_app_hg w o.type base v l0 hown A n c l hr hb hbase
  unfold Oper.wp execOp
  simp only [ho, resolve, invoke, builtin, Sem.run_bind, Sem.run_pure, Result.andThen_ok, List.map_toArray, List.map_cons, List.map_nil, hs, hx, hrun]
  exact hK _ _ (h v' w' r1 r2 r3)
end
/-- The slice v owns the rules l. -/
def rcells (l : List RuleV) : List Value := l.flatMap fun r => r.cells.toList
theorem rcells_len (l : List RuleV) : (rcells l).length = l.length * 6 := by
  induction l with
  | nil => rfl
  | cons h l ih => simp [rcells, RuleV.cells] at ih ⊢; omega
theorem rcells_at (l : List RuleV) (j : Nat) (hj : j < l.length) (i : Nat) (v : Value) (hv : l[j].cells[i]? = some v) : (rcells l)[j * 6 + i]? = some v := by
  induction l generalizing j with
  | nil => simp at hj
  | cons h l ih =>
    have e : rcells (h :: l) = h.cells.toList ++ rcells l := rfl
    have h6 : h.cells.toList.length = 6 := rfl
    rw [e]
    cases j with
    | zero =>
      have hi : i < 6 := (Array.getElem?_eq_some_iff.1 hv).1
      rw [Nat.zero_mul, Nat.zero_add, List.getElem?_append_left (by rw [h6]; exact hi)]
      simpa using hv
    | succ j =>
      rw [List.getElem?_append_right (by rw [h6]; omega), h6, show (j + 1) * 6 + i - 6 = j * 6 + i by omega]
      exact ih j (by simpa using hj) (by simpa using hv)
def Rw (w : World) (base : Nat) (v : Value) (n : Nat) (l : List RuleV) : Prop := w.ownsRow base 46 6 v n (rcells l)
theorem Rw.rs {w : World} {base n c : Nat} {A : Option Addr} {l : List RuleV} (h : Rw w base (.slice A n c) n l) : Rs w A n l := by
  have hl : l.length = n := by
    have h0 : (rcells l).length = n * 6 := h.1
    rw [rcells_len] at h0; omega
  refine ⟨hl, fun j r hr => ?_⟩
  have hj := (List.getElem?_eq_some_iff.1 hr).1
  have hr' : l[j] = r := (List.getElem?_eq_some_iff.1 hr).2
  rcases h.2 with ⟨e, h0⟩ | ⟨g, cap, cur, e, _⟩
  · omega
  · have e' := e
    injection e' with e1 _ _
    subst e1
    have hc : ∀ i v, r.cells[i]? = some v → w.cell? ((⟨g, 0, none⟩ : Addr).add (j * 6 + i)) = some v := fun i v hv => World.ownsRow.cells h (g := g) rfl _ _ (rcells_at l j hj i v (by rw [hr']; exact hv))
    refine ⟨_, rfl, (World.ownsRow.lt h g rfl).2, hc 0 _ rfl, fun i v hi hv => ?_⟩
    have := hc i v hv
    rw [← add_two] at this
    have e3 : ((⟨g, 0, none⟩ : Addr).add (j * 6)).add i = ⟨((⟨g, 0, none⟩ : Addr).add (j * 6)).block, ((⟨g, 0, none⟩ : Addr).add (j * 6)).off + i, none⟩ := by
      unfold Addr.add
      rw [if_neg (by omega)]
    rw [e3] at this
    exact this
end Go.Proofs.YthokfopeddaiiaaGreatDoor
