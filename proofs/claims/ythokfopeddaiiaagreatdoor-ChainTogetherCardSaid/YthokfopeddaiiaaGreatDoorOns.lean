/-
  Lists of interceptors that the law itself puts together; what holds while it makes its functions.
-/
import Derived.Test.YthokfopeddaiiaaGreatDoorSays
import Derived.Test.YthokfopeddaiiaaGreatDoorChn
import Derived.Laws.OwnMore
namespace Go.Proofs.YthokfopeddaiiaaGreatDoor
open Go.RowKit Go.Own Go.Own.Fn Go.Shelf
def ocell (o : Int × Int) : List Value := [.int .i64 o.1, .int .i64 o.2]
def ocells (l : List (Int × Int)) : List Value := l.flatMap ocell
theorem ocells_len (l : List (Int × Int)) : (ocells l).length = l.length * 2 := by
  induction l with
  | nil => rfl
  | cons h l ih => simp [ocells, ocell] at ih ⊢; omega
theorem ocells_append (a b : List (Int × Int)) : ocells (a ++ b) = ocells a ++ ocells b := by simp [ocells]
theorem ocells_one (l : List (Int × Int)) : ∀ u ∈ ocells l, u.oneCell' = true := by
  intro u hu
  simp [ocells, ocell] at hu
  rcases hu with ⟨a, b, _, h1⟩
  rcases h1 with rfl | rfl <;> rfl
theorem ocells_at (l : List (Int × Int)) (j : Nat) (hj : j < l.length) : (ocells l)[j * 2]? = some (.int .i64 l[j].1) ∧ (ocells l)[j * 2 + 1]? = some (.int .i64 l[j].2) := by
  induction l generalizing j with
  | nil => simp at hj
  | cons h l ih =>
    cases j with
    | zero => simp [ocells, ocell]
    | succ j =>
      have := ih j (by simpa using hj)
      have e : ocells (h :: l) = ocell h ++ ocells l := rfl
      rw [e]
      have h3 : (ocell h).length = 2 := rfl
      refine ⟨?_, ?_⟩
      · rw [List.getElem?_append_right (by rw [h3]; omega), h3, show (j + 1) * 2 - 2 = j * 2 by omega]; simpa using this.1
      · rw [List.getElem?_append_right (by rw [h3]; omega), h3, show (j + 1) * 2 + 1 - 2 = j * 2 + 1 by omega]; simpa using this.2
/-- The slice v owns the interceptors l. -/
def Oo (w : World) (base : Nat) (v : Value) (n : Nat) (l : List (Int × Int)) : Prop := w.ownsRow base 86 2 v n (ocells l)
theorem Oo.len {w : World} {base n : Nat} {v : Value} {l : List (Int × Int)} (h : Oo w base v n l) : l.length = n := by
  have h0 : (ocells l).length = n * 2 := h.1
  rw [ocells_len] at h0
  omega
theorem Oo.on {w : World} {base n c : Nat} {A : Option Addr} {l : List (Int × Int)} (h : Oo w base (.slice A n c) n l) : On w A n l := by
  have hl := h.len
  refine ⟨hl, fun hn => ?_⟩
  rcases h.2 with ⟨e, h0⟩ | ⟨g, cap, cur, e, _, hg, _⟩
  · omega
  · have e' := e
    injection e' with e1 _ _
    subst e1
    refine ⟨_, rfl, (World.ownsRow.lt h g rfl).2, fun j hj => ?_⟩
    have hc := ocells_at l j (by omega)
    have e2 : l.getD j (0, 0) = l[j]'(by omega) := by simp [List.getD, show j < l.length by omega]
    rw [e2]
    have c1 := World.ownsRow.cells h (g := g) rfl _ _ hc.1
    have c2 := World.ownsRow.cells h (g := g) rfl _ _ hc.2
    refine ⟨c1, ?_⟩
    rw [← add_two] at c2
    exact c2
theorem infoO : ∃ i, Tryz.prog.info? 86 = some i ∧ i.zero = some (.agg #[.int .i64 0, .int .i64 0]) ∧ i.size = 2 ∧ i.bytes = 16 :=
  info_parts (show (Tryz.prog.info? 86).map (fun i => (i.zero, i.size, i.bytes)) = some (some (.agg #[.int .i64 0, .int .i64 0]), 2, 16) by kernel_rfl)
set_option maxRecDepth 100000 in
theorem run_app_o (w : World) (ty : TypeId) (base : Nat) (v : Value) (m : Nat) (l0 : List (Int × Int)) (hown : Oo w base v m l0) (A : Option Addr) (n c : Nat) (l : List (Int × Int)) (hr : On w A n l) (hb : m + n ≤ 1000) (hbase : base ≤ w.heap.size) :
    ∃ v' w', (Builtin.append_ #[58, 58] ty #[v, .slice A n c]).run Tryz.prog w = .ok v' w' ∧ Oo w' base v' (m + n) (l0 ++ l) ∧ w.grownBy w' v.ownBlock := by
  obtain ⟨i, hi, hz, h1, h2⟩ := infoO
  rcases A with _ | ad
  · obtain rfl : n = 0 := by
      rcases Nat.eq_zero_or_pos n with h | h
      · exact h
      · obtain ⟨_, e, _⟩ := hr.2 h; cases e
    obtain rfl : l = [] := List.eq_nil_of_length_eq_zero hr.1
    refine ⟨v, w, ?_, by simpa using hown, World.grownBy.refl w _⟩
    rcases hown.2 with ⟨rfl, rfl⟩ | ⟨g, cap, cur, rfl, _, _, hnc, _⟩
    · simp [Builtin.append_, run_underlying Tryz.underlying58, sizeOf, typeInfo, hi, Builtin.lenOf, Builtin.firstCells]
    · simp [Builtin.append_, run_underlying Tryz.underlying58, sizeOf, typeInfo, hi, Builtin.lenOf, Builtin.firstCells, hnc, storeCells]
  · obtain ⟨v', w', hrun, r1, r2, _, r4⟩ := run_append_own_at (P := Tryz.prog) w base 58 ty 86 i _ 2 16 Tryz.underlying58 hi hz h1 h2 rfl (by decide) v m (ocells l0) hown ad n c (ocells l) (by rw [ocells_len, hr.1]) (fun j u hu => by
      have hj := (List.getElem?_eq_some_iff.1 hu).1
      rw [ocells_len] at hj
      obtain ⟨ad', e, _, hc⟩ := hr.2 (by have := hr.1; omega)
      obtain rfl := Option.some.inj e
      have hk := ocells_at l (j / 2) (by omega)
      have hc := hc (j / 2) (by have := hr.1; omega)
      have e2 : l.getD (j / 2) (0, 0) = l[j / 2]'(by omega) := by simp [List.getD, show j / 2 < l.length by omega]
      rw [e2] at hc
      rcases Nat.mod_two_eq_zero_or_one j with h0 | h0
      · have ej : j = j / 2 * 2 := by omega
        rw [ej] at hu ⊢
        rw [hk.1] at hu
        exact hu ▸ hc.1
      · have ej : j = j / 2 * 2 + 1 := by omega
        rw [ej, ← add_two]
        rw [ej, hk.2] at hu
        exact hu ▸ hc.2) (ocells_one l) (by simp only [maxLen]; omega) (by omega) hbase
    exact ⟨v', w', hrun, by unfold Oo; rw [ocells_append]; exact r1, r2⟩
section
variable {ops : Array Oper} {rest : List Oper} {o : Oper} {a : Act} {Q : Exit → Act → World → Prop}
theorem wpList_app_o (w : World) (hgd : o.guard = none) (s x : Operand) (ho : o.op = .call { callee := .builtin .append, args := #[s, x], argTypes := #[58, 58] })
    (base : Nat) (v : Value) (m : Nat) (l0 : List (Int × Int)) (hs : a.eval s = v) (hown : Oo w base v m l0) (A : Option Addr) (n c : Nat) (l : List (Int × Int)) (hx : a.eval x = .slice A n c) (hr : On w A n l) (hb : m + n ≤ 1000) (hbase : base ≤ w.heap.size)
    (h : ∀ A' c' w' k, k = m + n → Oo w' base (.slice A' k c') k (l0 ++ l) → w.grownBy w' v.ownBlock → k ≤ c' → wpList Tryz.prog ops Q rest (a.put o.dst (.slice A' k c')) w') : wpList Tryz.prog ops Q (o :: rest) a w := by
  refine wpList_plain hgd fun K hK => ?_
  obtain ⟨v', w', hrun, r1, r2⟩ := run_app_o w o.type base v m l0 hown A n c l hr hb hbase
  unfold Oper.wp execOp
  simp only [ho, resolve, invoke, builtin, Sem.run_bind, Sem.run_pure, Result.andThen_ok, List.map_toArray, List.map_cons, List.map_nil, hs, hx, hrun]
  rcases r1.2 with ⟨rfl, h0⟩ | ⟨g, cap, cur, rfl, _, _, hnc, _⟩
  · have e : (Value.slice none 0 0) = .slice none (m + n) 0 := by rw [h0]
    rw [e] at r1 ⊢
    exact hK _ _ (h none 0 w' _ rfl r1 r2 (by omega))
  · exact hK _ _ (h _ cap w' _ rfl r1 r2 hnc)
theorem wpList_mk_o (w : World) (hgd : o.guard = none) (hop : o.op = Op.makeSlice 58 (.const (.int .i64 0)) (.const (.int .i64 24)))
    (hK : ∀ w', Oo w' w.heap.size (.slice (some ⟨w.heap.size, 0, none⟩) 0 24) 0 [] → Below w.heap.size w w' → w.heap.size < w'.heap.size → wpList Tryz.prog ops Q rest (a.put o.dst (.slice (some ⟨w.heap.size, 0, none⟩) 0 24)) w') : wpList Tryz.prog ops Q (o :: rest) a w := by
  obtain ⟨i, hi, hz, h1, h2⟩ := infoO
  refine wpList_make_own (P := Tryz.prog) w hgd _ _ _ hop w.heap.size 86 i _ 2 Tryz.underlying58 hi hz h1 .i64 .i64 24 24 rfl rfl rfl (by rw [h2]; omega) (by simp only [maxLen]; omega) (Nat.le_refl _) ?_
  intro w' r1 r2
  exact hK w' r1 ((Below.refl _ _).grown r2 (Nat.le_refl _) (fun k e => by cases e)) ((World.ownsRow.lt r1 _ rfl).2)
end
/-- What stays while the law makes its functions. -/
structure TgW (w : World) (B : Nat) (A1 A2 A3 : Option Addr) (n1 n2 n3 : Nat) (l1 l2 l3 : List (Int × Int)) (W : World) : Prop where
  bel : Below w.heap.size w W
  lt : w.heap.size ≤ B
  o1 : On W A1 n1 l1
  o2 : On W A2 n2 l2
  o3 : On W A3 n3 l3
  c0 : Blk W B 50 #[.int .i64 0]
  c1 : Blk W (B + 1) 50 #[.int .i64 0]
  c2 : Blk W (B + 1 + 1) 50 #[.int .i64 0]
  c3 : Blk W (B + 1 + 1 + 1) 50 #[.int .i64 0]
theorem TgW.below {w W W' : World} {B : Nat} {A1 A2 A3 : Option Addr} {n1 n2 n3 : Nat} {l1 l2 l3 : List (Int × Int)} (h : TgW w B A1 A2 A3 n1 n2 n3 l1 l2 l3 W) (hb : Below W.heap.size W W') : TgW w B A1 A2 A3 n1 n2 n3 l1 l2 l3 W' :=
  ⟨h.bel.trans (hb.mono h.bel.size), h.lt, h.o1.below hb, h.o2.below hb, h.o3.below hb, h.c0.below hb h.c0.lt, h.c1.below hb h.c1.lt, h.c2.below hb h.c2.lt, h.c3.below hb h.c3.lt⟩
def exT (B : Nat) (g : Nat) : Prop := B ≤ g ∧ g < B + 4
theorem exT_row (B i : Nat) (hi : i < 4) : ∀ g, (cnt (B + i)).row = some g → exT B g := fun g h => by
  have := Option.some.inj h
  exact ⟨by omega, by omega⟩
theorem TgW.ex {w W : World} {B : Nat} {A1 A2 A3 : Option Addr} {n1 n2 n3 : Nat} {l1 l2 l3 : List (Int × Int)} (h : TgW w B A1 A2 A3 n1 n2 n3 l1 l2 l3 W) : ∀ g, exT B g → g < W.heap.size := fun g hg => by
  have := h.c3.lt
  have := hg.2
  omega
theorem exT_row2 {B b : Nat} (h1 : B ≤ b) (h2 : b < B + 4) : ∀ g, (cnt b).row = some g → exT B g := fun g h => by
  have := Option.some.inj h
  exact ⟨by omega, by omega⟩
theorem TgW.start {w v : World} {A1 A2 A3 : Option Addr} {n1 n2 n3 : Nat} {l1 l2 l3 : List (Int × Int)} (hb : Below w.heap.size w v) (o1 : On v A1 n1 l1) (o2 : On v A2 n2 l2) (o3 : On v A3 n3 l3) :
    TgW w v.heap.size A1 A2 A3 n1 n2 n3 l1 l2 l3 ((((v.alloc (.cells #[.int .i64 0] 50)).alloc (.cells #[.int .i64 0] 50)).alloc (.cells #[.int .i64 0] 50)).alloc (.cells #[.int .i64 0] 50)) := by
  have b4 : Below v.heap.size v ((((v.alloc (.cells #[.int .i64 0] 50)).alloc (.cells #[.int .i64 0] 50)).alloc (.cells #[.int .i64 0] 50)).alloc (.cells #[.int .i64 0] 50)) :=
    ((((Below.refl _ _).alloc (Nat.le_refl _) _).alloc (by simp) _).alloc (by simp; omega) _).alloc (by simp; omega) _
  have n : ∀ u : World, Blk (u.alloc (.cells #[.int .i64 0] 50)) u.heap.size 50 #[.int .i64 0] := fun u => Blk.new _ _ _
  have e1 : (v.alloc (.cells #[.int .i64 0] 50)).heap.size = v.heap.size + 1 := by simp
  have e2 : ((v.alloc (.cells #[.int .i64 0] 50)).alloc (.cells #[.int .i64 0] 50)).heap.size = v.heap.size + 1 + 1 := by simp
  have e3 : (((v.alloc (.cells #[.int .i64 0] 50)).alloc (.cells #[.int .i64 0] 50)).alloc (.cells #[.int .i64 0] 50)).heap.size = v.heap.size + 1 + 1 + 1 := by simp
  refine ⟨hb.trans (b4.mono hb.size), hb.size, o1.below b4, o2.below b4, o3.below b4, (((n v).alloc _).alloc _).alloc _, ?_, ?_, ?_⟩
  · have := n (v.alloc (.cells #[.int .i64 0] 50)); rw [e1] at this; exact (this.alloc _).alloc _
  · have := n ((v.alloc (.cells #[.int .i64 0] 50)).alloc (.cells #[.int .i64 0] 50)); rw [e2] at this; exact this.alloc _
  · have := n (((v.alloc (.cells #[.int .i64 0] 50)).alloc (.cells #[.int .i64 0] 50)).alloc (.cells #[.int .i64 0] 50)); rw [e3] at this; exact this
theorem two_ars {σ : Type} {S : Stt σ} {ex : Nat → Prop} {W : World} {r1 r2 : Value} {F1 F2 : (Int → σ → Int × σ) → Int → σ → Int × σ} (h1 : Arnd Tryz.prog S intL intL ex r1 F1 W) (h2 : Arnd Tryz.prog S intL intL ex r2 F2 W) :
    IsArs Tryz.prog S (fun _ => intL) 0 ex (W.alloc (.cells #[r1, r2] 54)) (some ⟨W.heap.size, 0, none⟩) 2 [F1, F2] := by
  have hb : Below W.heap.size W (W.alloc (.cells #[r1, r2] 54)) := (Below.refl _ _).alloc (Nat.le_refl _) _
  have hn := Blk.new W 54 #[r1, r2]
  refine ⟨rfl, fun j B hB => ?_⟩
  rcases j with _ | _ | j
  · simp at hB; subst hB
    exact ⟨_, _, rfl, by simp, hn.cell 0, h1.kx (Kx.below hb)⟩
  · simp at hB; subst hB
    exact ⟨_, _, rfl, by simp, hn.cell 1, h2.kx (Kx.below hb)⟩
  · simp at hB
/-- While the law's functions are asked: what the four counters tell. -/
structure TgJ (B : Nat) (W0 W : World) (m : Nat → Int) : Prop where
  kx : Kx (exT B) W0 W
  c : ∀ i, i < 4 → Blk W (B + i) 50 #[.int .i64 (m i)]
theorem TgJ.drew {B : Nat} {W0 W : World} {m : Nat → Int} (h : TgJ B W0 W m) : TgJ B W0 W.drew m := ⟨h.kx.trans (Kx.below (Below.refl _ _).drew), fun i hi => h.c i hi⟩
theorem tg_call {B i K : Nat} {W0 W : World} {m : Nat → Int} {f p : Array Value} {FF : Int → Int → Int × Int} (x : Int) (hi : i < 4) (hF : Fnc Tryz.prog (cnt (B + i)) intL (exT B) (.func (.func K) f p) FF W0) (hJ : TgJ B W0 W m) (h0 : m i = 0) :
    Calls Tryz.prog K (f.push (.int .i64 x) ++ p) W fun e w' => e = .returned (.int .i64 (FF x 0).1) ∧ Hid (TgJ B W0 w' (fun j => if j = i then (FF x 0).2 else m j)) := by
  obtain ⟨K', f', p', e, _, hc⟩ := hF
  obtain ⟨rfl, rfl, rfl⟩ : K' = K ∧ f' = f ∧ p' = p := by
    injection e with e1 e2 e3
    injection e1 with e1
    exact ⟨e1.symm, e2.symm, e3.symm⟩
  have hs := hJ.c i hi
  rw [h0] at hs
  refine (hc W 0 (.int .i64 x) x hJ.kx hs rfl).mono ?_
  rintro e w' ⟨yv, rfl, k1, k2, k3⟩
  obtain rfl : yv = .int .i64 (FF x 0).1 := k1
  have k2 : Blk w' (B + i) 50 #[.int .i64 (FF x 0).2] := k2
  refine ⟨rfl, Lib.hid ⟨hJ.kx.trans (Kx.grown k3 fun g e => ?_), fun j hj => ?_⟩⟩
  · have := Option.some.inj e
    exact ⟨by omega, by omega⟩
  · by_cases hji : j = i
    · subst hji; rw [if_pos rfl]; exact k2
    · rw [if_neg hji]
      exact (hJ.c j hj).grown k3 (fun e => hji (by have := Option.some.inj e; omega))
theorem tg_cally {B i K : Nat} {W0 W : World} {m : Nat → Int} {f p : Array Value} {FF : Int → Int → Int × Int} (x yy mm : Int) (hy : FF x 0 = (yy, mm)) (hi : i < 4) (hF : Fnc Tryz.prog (cnt (B + i)) intL (exT B) (.func (.func K) f p) FF W0) (hJ : TgJ B W0 W m) (h0 : m i = 0) :
    Calls Tryz.prog K (f.push (.int .i64 x) ++ p) W fun e w' => e = .returned (.int .i64 yy) ∧ Hid (TgJ B W0 w' (fun j => if j = i then mm else m j)) := by
  have h := tg_call x hi hF hJ h0
  rw [hy] at h
  exact h
theorem tg_cells {B : Nat} {W0 W : World} {m : Nat → Int} {mm : Int} (h : TgJ B W0 W m) (hm : ∀ i, i < 4 → m i = mm) : W.cell? ⟨B, 0, none⟩ = some (.int .i64 mm) ∧ W.cell? ⟨B + 1, 0, none⟩ = some (.int .i64 mm) ∧ W.cell? ⟨B + 1 + 1, 0, none⟩ = some (.int .i64 mm) ∧ W.cell? ⟨B + 1 + 1 + 1, 0, none⟩ = some (.int .i64 mm) := by
  have c : ∀ i, i < 4 → W.cell? ⟨B + i, 0, none⟩ = some (.int .i64 mm) := fun i hi => by rw [← hm i hi]; exact (h.c i hi).cell 0
  exact ⟨c 0 (by omega), c 1 (by omega), c 2 (by omega), c 3 (by omega)⟩
theorem tg_cell0 {B : Nat} {W0 W : World} {m : Nat → Int} {mm : Int} (h : TgJ B W0 W m) (hm : m 0 = mm) : W.cell? ⟨B, 0, none⟩ = some (.int .i64 mm) := by rw [← hm]; exact (h.c 0 (by omega)).cell 0
theorem tg_all {mm : Int} : ∀ i, i < 4 → (fun j => if j = 3 then mm else (fun j => if j = 2 then mm else (fun j => if j = 1 then mm else (fun j => if j = 0 then mm else (fun _ => (0 : Int)) j) j) j) j) i = mm := by
  intro i hi
  rcases i with _ | _ | _ | _ | i <;> first | rfl | omega
theorem TgJ.bel {w W0 W : World} {B : Nat} {m : Nat → Int} (h : TgJ B W0 W m) (hb : Below w.heap.size w W0) (hB : w.heap.size ≤ B) : Below w.heap.size w W :=
  hb.trans ⟨h.kx.os, h.kx.tape, h.kx.output, h.kx.size, fun i hi => h.kx.block i (by have := hb.size; omega) (fun hx => by have := hx.1; omega)⟩
theorem TgW.j {w W : World} {B : Nat} {A1 A2 A3 : Option Addr} {n1 n2 n3 : Nat} {l1 l2 l3 : List (Int × Int)} (h : TgW w B A1 A2 A3 n1 n2 n3 l1 l2 l3 W) : TgJ B W W (fun _ => 0) :=
  ⟨Kx.refl _ _, fun i hi => by
    rcases i with _ | _ | _ | _ | i
    · exact h.c0
    · exact h.c1
    · exact h.c2
    · exact h.c3
    · omega⟩
theorem tog_q (l1 l2 l3 : List (Int × Int)) (F : Int → Int → Int × Int) : wrapS [wrapS (l1.map oneF), wrapS [wrapS (l2.map oneF), wrapS (l3.map oneF)]] F = wrapS (([] ++ l1 ++ l2 ++ l3).map oneF) F := by
  simp [wrapS, List.foldr_append]
theorem tog_r (l1 l2 l3 : List (Int × Int)) (F : Int → Int → Int × Int) : wrapS [wrapS [wrapS (l1.map oneF), wrapS (l2.map oneF)], wrapS (l3.map oneF)] F = wrapS (([] ++ l1 ++ l2 ++ l3).map oneF) F := by
  simp [wrapS, List.foldr_append]
theorem tog_s (l1 l2 l3 : List (Int × Int)) (F : Int → Int → Int × Int) : wrapS (l1.map oneF) (wrapS (([] ++ l2 ++ l3).map oneF) F) = wrapS (([] ++ l1 ++ l2 ++ l3).map oneF) F := by
  simp [wrapS, List.foldr_append]
end Go.Proofs.YthokfopeddaiiaaGreatDoor
