/-
  ChainTwo: lists of rules that are laid behind one another; what lasts while both lists go around a call.
-/
import Derived.Test.YthokfopeddaiiaaGreatDoorTg
import Derived.Test.YthokfopeddaiiaaGreatDoorOrl
namespace Go.Proofs.YthokfopeddaiiaaGreatDoor
open Go.RowKit Go.Own Go.Own.Fn Go.Shelf
attribute [local go_sem] Oper.semAt_some
theorem infoRu : ∃ i, Tryz.prog.info? 46 = some i ∧ i.zero = some (.agg #[.string ⟨#[]⟩, .string ⟨#[]⟩, .string ⟨#[]⟩, .int .i64 0, .int .i64 0, .int .i64 0]) ∧ i.size = 6 ∧ i.bytes = 72 :=
  info_parts (show (Tryz.prog.info? 46).map (fun i => (i.zero, i.size, i.bytes)) = some (some (.agg #[.string ⟨#[]⟩, .string ⟨#[]⟩, .string ⟨#[]⟩, .int .i64 0, .int .i64 0, .int .i64 0]), 6, 72) by kernel_rfl)
theorem rcells_app (a b : List RuleV) : rcells (a ++ b) = rcells a ++ rcells b := by simp [rcells]
theorem rcells_one (l : List RuleV) : ∀ u ∈ rcells l, u.oneCell' = true := by
  intro u hu
  simp only [rcells, List.mem_flatMap] at hu
  obtain ⟨r, _, h1⟩ := hu
  simp [RuleV.cells] at h1
  rcases h1 with rfl | rfl | rfl | rfl | rfl | rfl <;> rfl
theorem rcells_get (l : List RuleV) (j : Nat) (u : Value) (h : (rcells l)[j]? = some u) : ∃ r, l[j / 6]? = some r ∧ r.cells[j % 6]? = some u := by
  have hj := (List.getElem?_eq_some_iff.1 h).1
  rw [rcells_len] at hj
  have hk : j / 6 < l.length := by omega
  refine ⟨l[j / 6], List.getElem?_eq_getElem hk, ?_⟩
  have h6 : j % 6 < (l[j / 6]).cells.size := Nat.lt_of_lt_of_le (Nat.mod_lt _ (by decide)) (Nat.le_refl 6)
  have := rcells_at l (j / 6) hk (j % 6) _ (Array.getElem?_eq_getElem h6)
  rw [show j / 6 * 6 + j % 6 = j by omega, h] at this
  rw [Array.getElem?_eq_getElem h6]
  exact this.symm
theorem Rs.cells {w : World} {A : Option Addr} {n : Nat} {l : List RuleV} (h : Rs w A n l) (j : Nat) (u : Value) (hu : (rcells l)[j]? = some u) : ∃ ad, A = some ad ∧ w.cell? (ad.add j) = some u := by
  obtain ⟨r, hr, hc⟩ := rcells_get l j u hu
  obtain ⟨ad, e, _, h0, h1⟩ := h.2 _ r hr
  refine ⟨ad, e, ?_⟩
  have hj : j = j / 6 * 6 + j % 6 := by omega
  by_cases hz : j % 6 = 0
  · rw [hz] at hc
    have hcu : u = .string r.path := by
      have : r.cells[0]? = some (.string r.path) := rfl
      rw [this] at hc
      injection hc with hc
      exact hc.symm
    rw [show ad.add j = ad.add (j / 6 * 6) by rw [show j = j / 6 * 6 by omega]; rw [show j / 6 * 6 / 6 * 6 = j / 6 * 6 by omega], hcu]
    exact h0
  · have h3 := h1 (j % 6) u (by omega) hc
    have e3 : (ad.add (j / 6 * 6)).add (j % 6) = ⟨(ad.add (j / 6 * 6)).block, (ad.add (j / 6 * 6)).off + j % 6, none⟩ := by
      conv => lhs; unfold Addr.add
      rw [if_neg hz]
      rfl
    have e4 : ad.add j = (ad.add (j / 6 * 6)).add (j % 6) := by
      rw [add_two]
      exact congrArg _ hj
    rw [e4, e3]
    exact h3
theorem run_app_r (w : World) (ty : TypeId) (base : Nat) (v : Value) (l0 : List RuleV) (hown : Rw w base v l0.length l0) (A : Option Addr) (n c : Nat) (l : List RuleV) (hr : Rs w A n l) (hb : l0.length + n ≤ 1000) (hbase : base ≤ w.heap.size) :
    ∃ v' w', (Builtin.append_ #[22, 22] ty #[v, .slice A n c]).run Tryz.prog w = .ok v' w' ∧ Rw w' base v' (l0 ++ l).length (l0 ++ l) ∧ w.grownBy w' v.ownBlock ∧ (v'.ownBlock = v.ownBlock ∨ v'.ownBlock = some w.heap.size) := by
  obtain ⟨i, hi, hz, h1, h2⟩ := infoRu
  rcases A with _ | ad
  · have hl : l = [] := by
      rcases l with _ | ⟨h, l⟩
      · rfl
      · obtain ⟨ad, e, _⟩ := hr.cells 0 _ (show (rcells (h :: l))[0]? = some (.string h.path) from rfl)
        cases e
    subst hl
    obtain rfl : n = 0 := by have := hr.1; simpa using this.symm
    refine ⟨v, w, ?_, by simpa using hown, World.grownBy.refl w _, .inl rfl⟩
    rcases hown.2 with ⟨rfl, h0⟩ | ⟨g, cap, cur, rfl, _, _, hnc, _⟩
    · simp [Builtin.append_, run_underlying Tryz.underlying22, sizeOf, typeInfo, hi, Builtin.lenOf, Builtin.firstCells]
    · simp [Builtin.append_, run_underlying Tryz.underlying22, sizeOf, typeInfo, hi, Builtin.lenOf, Builtin.firstCells, hnc, storeCells]
  · obtain ⟨v', w', hrun, r1, r2, _, r4⟩ := run_append_own_at (P := Tryz.prog) w base 22 ty 46 i _ 6 72 Tryz.underlying22 hi hz h1 h2 rfl (by decide) v l0.length (rcells l0) hown ad n c (rcells l) (by rw [rcells_len, hr.1]) (fun j u hu => by
      obtain ⟨ad', e, h⟩ := hr.cells j u hu
      obtain rfl := Option.some.inj e
      exact h) (rcells_one l) (by simp only [maxLen]; omega) (by omega) hbase
    refine ⟨v', w', hrun, ?_, r2, r4⟩
    unfold Rw
    rw [rcells_app, List.length_append, hr.1]
    exact r1
section
variable {ops : Array Oper} {o : Oper} {a : Act} {K : Act → World → Prop} {Q : Exit → Act → World → Prop} {E : Prop}
theorem step_mk_r (w : World) (hgd : o.guard = none) (hop : o.op = Op.makeSlice 22 (.const (.int .i64 0)) (.const (.int .i64 80)))
    (h : ∀ w', Rw w' w.heap.size (.slice (some ⟨w.heap.size, 0, none⟩) 0 80) 0 [] → Below w.heap.size w w' → K (a.put o.dst (.slice (some ⟨w.heap.size, 0, none⟩) 0 80)) w') :
    if Region.wanted o (yielded ops a.tmps) = true then Oper.wp Tryz.prog o a w K Q else E := by
  have hw : Region.wanted o (yielded ops a.tmps) = true := by simp [Region.wanted, hgd]
  rw [if_pos hw]
  obtain ⟨i, hi, hz, h1, h2⟩ := infoRu
  obtain ⟨w', hrun, r1, r2⟩ := run_make_own (P := Tryz.prog) w w.heap.size 22 46 i _ 6 Tryz.underlying22 hi hz h1 .i64 .i64 80 (by rw [h2]; omega) (by simp only [maxLen]; omega) (Nat.le_refl _)
  have hrun : (Instr.makeSlice 22 (.int .i64 0) (.int .i64 80)).run Tryz.prog w = _ := hrun
  unfold Oper.wp
  have e1 : a.eval (.const (.int .i64 0)) = .int .i64 0 := rfl
  have e2 : a.eval (.const (.int .i64 80)) = .int .i64 80 := rfl
  simp [execOp, hop, e1, e2, hrun, Result.andThen]
  exact h w' r1 ((Below.refl _ _).grown r2 (Nat.le_refl _) (fun k e => by cases e))
theorem step_app_r (w : World) (hgd : o.guard = none) (s x : Operand) (ho : o.op = .call { callee := .builtin .append, args := #[s, x], argTypes := #[22, 22] })
    (base : Nat) (v : Value) (l0 : List RuleV) (hs : a.eval s = v) (hown : Rw w base v l0.length l0) (A : Option Addr) (n c : Nat) (l : List RuleV) (hx : a.eval x = .slice A n c) (hr : Rs w A n l) (hb : l0.length + n ≤ 1000) (hbase : base ≤ w.heap.size)
    (h : ∀ v' w', Rw w' base v' (l0 ++ l).length (l0 ++ l) → w.grownBy w' v.ownBlock → (v'.ownBlock = v.ownBlock ∨ v'.ownBlock = some w.heap.size) → K (a.put o.dst v') w') :
    if Region.wanted o (yielded ops a.tmps) = true then Oper.wp Tryz.prog o a w K Q else E := by
  have hw : Region.wanted o (yielded ops a.tmps) = true := by simp [Region.wanted, hgd]
  rw [if_pos hw]
  obtain ⟨v', w', hrun, r1, r2, r3⟩ := run_app_r w o.type base v l0 hown A n c l hr hb hbase
  unfold Oper.wp execOp
  simp only [ho, resolve, invoke, builtin, Sem.run_bind, Sem.run_pure, Result.andThen_ok, List.map_toArray, List.map_cons, List.map_nil, hs, hx, hrun]
  exact h v' w' r1 r2 r3
end
theorem Rw.apart {w : World} {base n g : Nat} {t : TypeId} {v : Value} {l : List RuleV} {cs : Array Value} (h : Rw w base v n l) (hb : Blk w g t cs) (ht : 46 ≠ t) : some g ≠ v.ownBlock := by
  rcases h.2 with ⟨rfl, _⟩ | ⟨b, cap, cur, rfl, _, hg, _⟩
  · intro e; cases e
  · intro e
    have e : g = b := by simpa [Value.ownBlock] using e
    subst e
    unfold Blk at hb
    rw [hg] at hb
    injection hb with hb
    injection hb with _ ht'
    exact ht ht'
theorem Rw.form {w : World} {base n : Nat} {v : Value} {l : List RuleV} (h : Rw w base v n l) : ∃ A c, v = .slice A n c := by
  rcases h.2 with ⟨rfl, h0⟩ | ⟨g, cap, cur, rfl, _⟩
  · exact ⟨none, 0, by rw [h0]⟩
  · exact ⟨_, cap, rfl⟩
abbrev ans0 : Array Value := #[.int .i64 0, .string ⟨#[]⟩, .slice none 0 0, .slice none 0 0]
/-- While both lists are laid behind one another, the counting function is made and the answer's place. -/
structure TwF (B0 : World) (g2 : Nat) (o : Option (Value × List RuleV)) (fp an : Option Nat) (W : World) : Prop where
  bel : Below B0.heap.size B0 W
  own : ∀ v l, o = some (v, l) → Rw W B0.heap.size v l.length l
  fn : ∀ p, fp = some p → Blk W p 36 #[.pointer (some ⟨g2, 0, none⟩)] ∧ B0.heap.size ≤ p
  ans : ∀ q, an = some q → Blk W q 39 ans0 ∧ B0.heap.size ≤ q
section
variable {B0 W w' : World} {g2 : Nat} {o : Option (Value × List RuleV)} {fp an : Option Nat}
theorem TwF.start (w : World) (g2 : Nat) : TwF w g2 none none none w.drew := ⟨below_drewN (Below.refl _ _) 1, (fun _ _ h => nomatch h), (fun _ h => nomatch h), (fun _ h => nomatch h)⟩
theorem rw_below {w w' : World} {base n : Nat} {v : Value} {l : List RuleV} (h : Rw w base v n l) (hb : Below w.heap.size w w') : Rw w' base v n l := World.ownsRow.kept h (grown_of_below hb none) (own_or v)
theorem rw_base {w : World} {base base' n : Nat} {v : Value} {l : List RuleV} (h : Rw w base v n l) (hb : base' ≤ base) : Rw w base' v n l := by
  refine ⟨h.1, ?_⟩
  rcases h.2 with h0 | ⟨g, cap, cur, e, hb', rest⟩
  · exact .inl h0
  · exact .inr ⟨g, cap, cur, e, Nat.le_trans hb hb', rest⟩
theorem TwF.made {v : Value} (h : TwF B0 g2 none fp an W) (h0 : Rw w' W.heap.size v 0 []) (h1 : Below W.heap.size W w') : TwF B0 g2 (some (v, [])) fp an w' :=
  ⟨h.bel.trans (h1.mono h.bel.size), (fun a b e => by cases e; exact rw_base h0 h.bel.size), fun p e => ⟨(h.fn p e).1.below h1 (h.fn p e).1.lt, (h.fn p e).2⟩, fun q e => ⟨(h.ans q e).1.below h1 (h.ans q e).1.lt, (h.ans q e).2⟩⟩
theorem TwF.mkf (h : TwF B0 g2 o none an W) : TwF B0 g2 o (some W.heap.size) an (W.alloc (.cells #[.pointer (some ⟨g2, 0, none⟩)] 36)) :=
  ⟨h.bel.alloc h.bel.size _, (fun a b e => rw_below (h.own a b e) ((Below.refl _ _).alloc (Nat.le_refl _) _)), (fun p e => by cases e; exact ⟨Blk.new _ _ _, h.bel.size⟩), fun q e => ⟨(h.ans q e).1.alloc _, (h.ans q e).2⟩⟩
theorem TwF.room (h : TwF B0 g2 o fp none W) : TwF B0 g2 o fp (some W.heap.size) (W.alloc (.cells ans0 39)) :=
  ⟨h.bel.alloc h.bel.size _, (fun a b e => rw_below (h.own a b e) ((Below.refl _ _).alloc (Nat.le_refl _) _)), (fun p e => ⟨(h.fn p e).1.alloc _, (h.fn p e).2⟩), fun q e => by cases e; exact ⟨Blk.new _ _ _, h.bel.size⟩⟩
theorem TwF.ap {v v' : Value} {l m : List RuleV} (h : TwF B0 g2 (some (v, l)) fp an W) (h0 : Rw w' B0.heap.size v' (l ++ m).length (l ++ m)) (h1 : W.grownBy w' v.ownBlock) : TwF B0 g2 (some (v', l ++ m)) fp an w' :=
  ⟨h.bel.grown h1 h.bel.size (fun k e => (World.ownsRow.lt (h.own v l rfl) k e).1), (fun a b e => by cases e; exact h0), fun p e => ⟨(h.fn p e).1.grown h1 ((h.own v l rfl).apart (h.fn p e).1 (by decide)), (h.fn p e).2⟩, fun q e => ⟨(h.ans q e).1.grown h1 ((h.own v l rfl).apart (h.ans q e).1 (by decide)), (h.ans q e).2⟩⟩
end
theorem TwF.mkf' {B0 W w' : World} {g2 p : Nat} {o : Option (Value × List RuleV)} {an : Option Nat} (h : TwF B0 g2 o none an W) (hp : p = W.heap.size) (hw : w' = W.alloc (.cells #[.pointer (some ⟨g2, 0, none⟩)] 36)) : TwF B0 g2 o (some p) an w' := by
  subst hp hw; exact h.mkf
theorem TwF.room' {B0 W w' : World} {g2 q : Nat} {o : Option (Value × List RuleV)} {fp : Option Nat} (h : TwF B0 g2 o fp none W) (hq : q = W.heap.size) (hw : w' = W.alloc (.cells #[.int .i64 0, .string ⟨#[]⟩, .slice none 0 0, .slice none 0 0] 39)) : TwF B0 g2 o fp (some q) w' := by
  subst hq hw; exact h.room
theorem cntMk' (g pc : Nat) (W : World) : Calls Tryz.prog 13 #[.pointer (some ⟨g, 0, none⟩), .pointer (some ⟨pc, 0, none⟩)] W fun e w' => ∃ p, e = .returned (cntV p pc) ∧ Hid (p = W.heap.size ∧ w' = W.alloc (.cells #[.pointer (some ⟨g, 0, none⟩)] 36)) :=
  (cntMk g pc W).mono fun _ _ h => ⟨_, h.1, Lib.hid ⟨rfl, h.2⟩⟩
/-- The second answer lies in block g. -/
def Fin2 (g2 : Nat) (B0 wx : World) (g : Nat) (a b c d : Value) (y : AnsV × Int) : Prop :=
  B0.heap.size ≤ g ∧ Blk wx g 39 #[a, b, c, d] ∧ RYk 0 wx (.agg #[a, b, c, d]) y.1 ∧ (cntS g2).St y.2 wx ∧ B0.grownBy wx (some g2)
theorem fin2_new {g2 : Nat} {B0 w10 : World} {a b c d : Value} {y : AnsV × Int} (h1 : RYk 0 w10 (.agg #[a, b, c, d]) y.1) (h2 : (cntS g2).St y.2 w10) (h3 : B0.grownBy w10 (some g2)) :
    Fin2 g2 B0 (w10.alloc (.cells #[a, b, c, d] 39)) w10.heap.size a b c d y := by
  have hb : Below w10.heap.size w10 (w10.alloc (.cells #[a, b, c, d] 39)) := (Below.refl _ _).alloc (Nat.le_refl _) _
  exact ⟨h3.size, Blk.new _ _ _, h1.below hb, steady_of_keeps (cnt_keeps g2) _ _ _ hb h2, grown_trans h3 (grown_of_below hb _)⟩
theorem fin2_put {g2 g : Nat} {B0 w10 : World} {a b c d : Value} {y : AnsV × Int} (hg : B0.heap.size ≤ g) (h1 : RYk 0 w10 (.agg #[a, b, c, d]) y.1) (h2 : (cntS g2).St y.2 w10) (h3 : B0.grownBy w10 (some g2)) (hB : Blk w10 g 39 ans0) :
    Fin2 g2 B0 (put4 w10 g a b c d) g a b c d y := by
  have hk := put4_kt (a := a) (b := b) (c := c) (d := d) hB
  exact ⟨hg, put4_blk hB, (keepers_call (cnt_keeps g2) 0).ry hk h1, cnt_keeps g2 _ _ _ hk h2, put4_grown h3 hg⟩
end Go.Proofs.YthokfopeddaiiaaGreatDoor
