/-
  Contracts: slices.IndexFunc, DeleteFunc of headers at the kind Remove's question; the kind Remove.
-/
import Derived.Test.YthokfopeddaiiaaGreatDoorGq
namespace Go.Proofs.YthokfopeddaiiaaGreatDoor
open Go.RowKit Go.Own Go.Own.Fn Go.Shelf
attribute [local go_sem] Oper.semAt_some
variable {σ : Type}
set_option maxRecDepth 100000 in
theorem del_any (br : Nat) (r : RuleV) (x : HdrV) (W : World) (hb : Blk W br 46 r.cells) :
    Calls Tryz.prog 63 #[.agg #[.string x.name, .string x.value, .bool x.never], .pointer (some ⟨br, 0, none⟩)] W fun e w' => e = .returned (.bool (sameT x.name r.name)) ∧ Below W.heap.size W w' := by
  obtain ⟨b, hb1⟩ : ∃ b, (x.name.toList == r.name.toList) = b := ⟨_, rfl⟩
  have HB := Lib.hid (show sameT x.name r.name = b from hb1)
  have l1 := hb.lt
  have c1 : W.cell? ⟨br, 1, none⟩ = some (.string r.name) := hb.cell 1
  obtain ⟨xn, xv, xb⟩ := x
  simp only at hb1 HB ⊢
  clear hb
  go_enter Tryz.func63, Tryz.ntmps63
  go_wp2
  go_ret
  exact ⟨by rw [HB.out]; rfl, (Below.refl _ _).alloc (Nat.le_refl _) _⟩
/-- The value of the question. -/
abbrev delV (br : Nat) : Value := .func (.func 63) #[] #[.pointer (some ⟨br, 0, none⟩)]
def IfPost (p : HdrV → Bool) (l : List HdrV) (n : Nat) (w : World) (e : Ending) (w' : World) : Prop :=
  ∃ i : Int, e = .returned (.int .i64 i) ∧ Below w.heap.size w w' ∧ ((i = -1 ∧ l.any p = false) ∨ ∃ k : Nat, i = (k : Int) ∧ k < n ∧ (l.take k).any p = false ∧ ∃ x, l[k]? = some x ∧ p x = true)
set_option maxHeartbeats 1000000 in
set_option maxRecDepth 100000 in
theorem indexFn_any (br : Nat) (r : RuleV) (A : Option Addr) (n c : Nat) (l : List HdrV) (w : World) (hn : n ≤ 1000000000) (hr : Hr w A n l) (hb : Blk w br 46 r.cells) :
    Calls Tryz.prog 93 #[.slice A n c, delV br] w (IfPost (fun h => sameT h.name r.name) l n w) := by
  have HR := Lib.hid hr
  have HL := Lib.hid hr.1
  have HB := Lib.hid hb
  have hE : ∀ args w, (callFunc 63 args).run Tryz.prog w = .ok (.enter 63 args) w := enters_of Tryz.func63 (by kernel_rfl) rfl
  clear hr hb
  go_enter Tryz.func93, Tryz.ntmps93
  go_wp2
  go_loopw [8] (fun i wr => ∃ k : Nat, k ≤ n ∧ i = .int .i64 (k : Int) ∧ Hid (Below w.heap.size w wr ∧ (l.take k).any (fun h => sameT h.name r.name) = false)) (fun i _ => n - (intOf i).toNat)
  case atStart => exact ⟨0, by omega, rfl, Lib.hid ⟨Below.refl _ _, by simp⟩⟩
  case round =>
    obtain ⟨k, hk, rfl, hh⟩ := hrel
    by_cases hlt : k < n
    · obtain ⟨ad, x, rfl, hx, a0, a1, a2⟩ := (HR.out.below hh.out.1).at2 hlt
      have HX := Lib.hid hx
      have HD := Lib.hid (del_any br r x wr (HB.out.below hh.out.1 HB.out.lt))
      obtain ⟨b, hb⟩ : ∃ b, sameT x.name r.name = b := ⟨_, rfl⟩
      rw [hb] at HD
      have HP := Lib.hid hb
      obtain ⟨xn, xv, xb⟩ := x
      simp only at a0 a1 a2 HD HP
      have i0 : (0 : Int) ≤ (k : Int) := by omega
      have i1 : (k : Int) < (n : Int) := by omega
      clear hx hb
      rcases b with _ | _
      · have HN := Lib.hid (any_take l _ k _ HX.out hh.out.2 HP.out)
        go_wp2_with ((with_reducible refine HD.out.mono ?_); rintro e w2 ⟨rfl, g2⟩; have G2 := Lib.hid (hh.out.1.trans (g2.mono hh.out.1.size)); clear g2)
        exact ⟨⟨k + 1, hlt, by go_num, Lib.hid ⟨G2.out, HN.out⟩⟩, by simp [intOf]; omega⟩
      · go_wp2_with ((with_reducible refine HD.out.mono ?_); rintro e w2 ⟨rfl, g2⟩; have G2 := Lib.hid (hh.out.1.trans (g2.mono hh.out.1.size)); clear g2)
        go_ret
        exact ⟨_, rfl, G2.out, .inr ⟨k, rfl, hlt, hh.out.2, _, HX.out, HP.out⟩⟩
    · obtain rfl : k = n := by omega
      have HN := Lib.hid hh.out.2
      rw [List.take_of_length_le (by rw [HL.out]; exact Nat.le_refl _)] at HN
      go_wp2
      go_ret
      exact ⟨_, rfl, hh.out.1, .inl ⟨rfl, HN.out⟩⟩
theorem hcells_set : ∀ (l : List HdrV) (j : Nat) (x : HdrV), hcells (l.set j x) = (((hcells l).set (j * 3) (.string x.name)).set (j * 3 + 1) (.string x.value)).set (j * 3 + 2) (.bool x.never)
  | [], j, x => by simp [hcells]
  | h :: l, 0, x => by simp [hcells, hcell]
  | h :: l, j + 1, x => by
    have ih := hcells_set l j x
    have e : ∀ (a : HdrV) (m : List HdrV), hcells (a :: m) = hcell a ++ hcells m := fun _ _ => rfl
    rw [List.set_cons_succ, e, e, ih]
    simp only [hcell]
    rw [show (j + 1) * 3 = j * 3 + 3 by omega]
    rfl
/-- A header is stored into a list of one's own. -/
theorem Hw.put {w : World} {base g n c : Nat} {l : List HdrV} (h : Hw w base (.slice (some ⟨g, 0, none⟩) n c) l) (j : Nat) (x : HdrV) :
    Hw (((w.setCell ⟨g, j * 3, none⟩ (.string x.name)).setCell ⟨g, j * 3 + 1, none⟩ (.string x.value)).setCell ⟨g, j * 3 + 2, none⟩ (.bool x.never)) base (.slice (some ⟨g, 0, none⟩) n c) (l.set j x) ∧
      w.grownBy (((w.setCell ⟨g, j * 3, none⟩ (.string x.name)).setCell ⟨g, j * 3 + 1, none⟩ (.string x.value)).setCell ⟨g, j * 3 + 2, none⟩ (.bool x.never)) (some g) := by
  obtain ⟨A', c', e', _⟩ := h.form
  injection e' with _ e1 _
  subst e1
  unfold Hw at h ⊢
  obtain ⟨h1, g1⟩ := World.ownsRow.stored h (j * 3) (.string x.name)
  obtain ⟨h2, g2⟩ := World.ownsRow.stored h1 (j * 3 + 1) (.string x.value)
  obtain ⟨h3, g3⟩ := World.ownsRow.stored h2 (j * 3 + 2) (.bool x.never)
  rw [hcells_set, List.length_set]
  exact ⟨h3, grown_trans (grown_trans g1 g2) g3⟩
theorem Hw.blk {w : World} {base : Nat} {v : Value} {l : List HdrV} (h : Hw w base v l) (hl : 0 < l.length) : ∃ g cap, v = .slice (some ⟨g, 0, none⟩) l.length cap ∧ base ≤ g ∧ g < w.heap.size ∧ l.length ≤ cap := by
  rcases h.2 with ⟨_, h0⟩ | ⟨g, cap, cur, rfl, hb, hg, hn, hm, _⟩
  · omega
  · exact ⟨g, cap, rfl, hb, (h.lt g rfl).2, hn⟩
/-- The three cells of a header of one's own. -/
theorem Hw.three {w : World} {base g n c : Nat} {l : List HdrV} (h : Hw w base (.slice (some ⟨g, 0, none⟩) n c) l) (j : Nat) (hj : j < l.length) :
    (w.cell? ⟨g, j * 3, none⟩ = some (.string l[j].name) ∧ w.cell? ⟨g, j * 3 + 1, none⟩ = some (.string l[j].value) ∧ w.cell? ⟨g, j * 3 + 2, none⟩ = some (.bool l[j].never)) ∧
      (w.frozen? ⟨g, j * 3, none⟩ = false ∧ w.frozen? ⟨g, j * 3 + 1, none⟩ = false ∧ w.frozen? ⟨g, j * 3 + 2, none⟩ = false) := by
  obtain ⟨A', c', e', _⟩ := h.form
  injection e' with _ e1 _
  subst e1
  obtain ⟨q0, q1, q2⟩ := hcells_at l j hj
  exact ⟨⟨(World.ownsRow.cellAt h _ (by omega)).trans q0, (World.ownsRow.cellAt h _ (by omega)).trans q1, (World.ownsRow.cellAt h _ (by omega)).trans q2⟩, World.ownsRow.frozenAt h _, World.ownsRow.frozenAt h _, World.ownsRow.frozenAt h _⟩
/-! ### clear(s[i:]) -/
theorem own_setCells {base g n c size : Nat} {e : TypeId} : ∀ (vs : List Value) (o : Nat) (w : World) (xs : List Value), w.ownsRow base e size (.slice (some ⟨g, 0, none⟩) n c) n xs →
    ∃ xs', (w.setCells g o vs).ownsRow base e size (.slice (some ⟨g, 0, none⟩) n c) n xs' ∧ (∀ j, j < o → xs'[j]? = xs[j]?) ∧ w.grownBy (w.setCells g o vs) (some g)
  | [], o, w, xs, h => ⟨xs, h, fun _ _ => rfl, World.grownBy.refl w _⟩
  | v :: vs, o, w, xs, h => by
    obtain ⟨h1, g1⟩ := World.ownsRow.stored h o v
    obtain ⟨xs', h2, h3, g2⟩ := own_setCells vs (o + 1) _ _ h1
    refine ⟨xs', h2, fun j hj => ?_, grown_trans g1 g2⟩
    rw [h3 j (by omega), List.getElem?_set]
    simp [show o ≠ j by omega]
theorem Hw.short {w : World} {base g n c i : Nat} {xs : List Value} {m : List HdrV} (h : w.ownsRow base 34 3 (.slice (some ⟨g, 0, none⟩) n c) n xs) (hi : i ≤ n) (hm : m.length = n) (hx : ∀ j, j < i * 3 → xs[j]? = (hcells m)[j]?) :
    Hw w base (.slice (some ⟨g, 0, none⟩) i c) (m.take i) := by
  have hl : (m.take i).length = i := by rw [List.length_take, hm]; omega
  rcases h.2 with ⟨h', _⟩ | ⟨g', cap', cur, h', hb, hg, hnc, hcm, hcs, htake⟩
  · simp at h'
  · simp only [Value.slice.injEq, Option.some.injEq, Addr.mk.injEq, and_true, true_and] at h'
    obtain ⟨rfl, rfl⟩ := h'
    unfold Hw
    rw [hl]
    refine ⟨by rw [hcells_len, hl], .inr ⟨g, c, cur, rfl, hb, hg, by omega, hcm, hcs, ?_⟩⟩
    have e1 : hcells (m.take i) = (hcells m).take (i * 3) := by
      have e : hcells m = hcells (m.take i) ++ hcells (m.drop i) := by rw [← hcells_append, List.take_append_drop]
      rw [e, List.take_left' (by rw [hcells_len, hl])]
    have e2 : cur.toList.take (i * 3) = xs.take (i * 3) := by
      rw [← htake, List.take_take, Nat.min_eq_left (Nat.mul_le_mul_right 3 hi)]
    rw [e1, e2]
    apply List.ext_getElem?
    intro j
    rw [List.getElem?_take, List.getElem?_take]
    split
    · exact hx j (by assumption)
    · rfl
theorem zeros_one (m : Nat) : ∀ v ∈ (Builtin.zeroCells #[.string ⟨#[]⟩, .string ⟨#[]⟩, .bool false] m).toList, v.oneCell' = true := by
  intro v hv
  unfold Builtin.zeroCells at hv
  simp at hv
  obtain ⟨i, _, rfl⟩ := hv
  have : i % 3 = 0 ∨ i % 3 = 1 ∨ i % 3 = 2 := by omega
  rcases this with h | h | h <;> rw [h] <;> rfl
theorem zeros_len (m : Nat) : (Builtin.zeroCells #[.string ⟨#[]⟩, .string ⟨#[]⟩, .bool false] m).toList.length = m * 3 := by
  unfold Builtin.zeroCells
  simp
theorem run_zeroH (w : World) : (zeroValue 34).run Tryz.prog w = .ok (.agg #[.string ⟨#[]⟩, .string ⟨#[]⟩, .bool false]) w := by
  obtain ⟨i, hi, hz, _⟩ := infoH
  simp [zeroValue, typeInfo, hi, hz]
set_option maxRecDepth 100000 in
theorem run_clear_h {w : World} {base g n c c' i : Nat} {ty : TypeId} {m : List HdrV} (hown : Hw w base (.slice (some ⟨g, 0, none⟩) n c) m) (hi : i < n) :
    ∃ w', (Builtin.clear_ #[23] ty #[.slice (some ⟨g, i * 3, none⟩) (n - i) c']).run Tryz.prog w = .ok (.tuple #[]) w' ∧ Hw w' base (.slice (some ⟨g, 0, none⟩) i c) (m.take i) ∧ w.grownBy w' (some g) := by
  have hl : m.length = n := by
    obtain ⟨A', c', e', _⟩ := hown.form
    injection e' with _ e1 _
    exact e1.symm
  have hown' : w.ownsRow base 34 3 (.slice (some ⟨g, 0, none⟩) n c) n (hcells m) := by
    unfold Hw at hown; rw [hl] at hown; exact hown
  obtain ⟨q, hq⟩ : ∃ q, n - i = q + 1 := ⟨n - i - 1, by omega⟩
  have hst := run_storeCells_cells (P := Tryz.prog) g (i * 3) (Builtin.zeroCells #[.string ⟨#[]⟩, .string ⟨#[]⟩, .bool false] (n - i)).toList 0 w (by
    intro j hj
    rw [zeros_len] at hj
    rw [World.ownsRow.cellAt hown' _ (by omega), List.getElem?_eq_getElem (by rw [hcells_len, hl]; omega)]
    rfl) (by intro j hj; exact World.ownsRow.frozenAt hown' _) (zeros_one _)
  simp only [Nat.add_zero] at hst
  obtain ⟨xs', h1, h2, h3⟩ := own_setCells (Builtin.zeroCells #[.string ⟨#[]⟩, .string ⟨#[]⟩, .bool false] (n - i)).toList (i * 3) w _ hown'
  refine ⟨w.setCells g (i * 3) (Builtin.zeroCells #[.string ⟨#[]⟩, .string ⟨#[]⟩, .bool false] (n - i)).toList, ?_, Hw.short h1 (Nat.le_of_lt hi) hl h2, h3⟩
  have hc : (Value.agg #[.string ⟨#[]⟩, .string ⟨#[]⟩, .bool false]).cells = #[.string ⟨#[]⟩, .string ⟨#[]⟩, .bool false] := rfl
  rw [hq] at hst ⊢
  simp [Builtin.clear_, run_underlying Tryz.underlying23, run_zeroH, hc, hst]
section
variable {ops : Array Oper} {rest : List Oper} {o : Oper} {a : Act} {Q : Exit → Act → World → Prop}
theorem wpList_clear_h (w : World) (hgd : o.guard = none) (x : Operand) (ho : o.op = .call { callee := .builtin .clear, args := #[x], argTypes := #[23] })
    (base g n c c' i : Nat) (m : List HdrV) (hx : a.eval x = .slice (some ⟨g, i * 3, none⟩) (n - i) c') (hown : Hw w base (.slice (some ⟨g, 0, none⟩) n c) m) (hi : i < n)
    (h : ∀ w', Hw w' base (.slice (some ⟨g, 0, none⟩) i c) (m.take i) → w.grownBy w' (some g) → wpList Tryz.prog ops Q rest (a.put o.dst (.tuple #[])) w') : wpList Tryz.prog ops Q (o :: rest) a w := by
  refine wpList_plain hgd fun K hK => ?_
  obtain ⟨w', hrun, r1, r2⟩ := run_clear_h (ty := o.type) (c' := c') hown hi
  unfold Oper.wp execOp
  simp only [ho, resolve, invoke, builtin, Sem.run_bind, Sem.run_pure, Result.andThen_ok, List.map_toArray, List.map_cons, List.map_nil, hx, hrun]
  exact hK _ _ (h w' r1 r2)
end
end Go.Proofs.YthokfopeddaiiaaGreatDoor
